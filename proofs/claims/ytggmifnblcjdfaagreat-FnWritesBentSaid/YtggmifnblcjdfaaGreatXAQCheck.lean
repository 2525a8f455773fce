/- Own text: AQCheck. -/
import Derived.Test.YtggmifnblcjdfaaGreatXABun4
import Derived.Test.YtggmifnblcjdfaaGreatXACopy
import Derived.Test.YtggmifnblcjdfaaGreatXAOkA
set_option linter.unusedVariables false
set_option linter.unusedSimpArgs false
namespace Go.Proofs.YtggmifnblcjdfaaGreat
namespace AQCheck
open Go.RowKit RJ RP Go.Proofs.YtggmifnblcjdfaaGreatW.PrintWords Fp FpStep MInt MKinds MRead MMake MPut MHeld MOk MSuper Go.Proofs.YtggmifnblcjdfaaGreat.Sep SepStep AKinds AMake AEnt ALaw AArr AOk MVal AHole AMark AOpV AOp ASyncF ACopy AOkD AOkI AOkA AMarkV AMarkF
def checkR (a : ArrV) : ArrV := if arrB a && !a.down && decide (a.gen < 60000) then checkV a else a
set_option maxHeartbeats 8000000 in
set_option maxRecDepth 100000 in
theorem c_implCheck {w : World} {v : Value} {a : ArrV} (h : ArrR w v a) (hsm : SmallA a) :
  Calls Tryz.prog 25 #[v] w fun e w' => ∃ u F, e = .returned u ∧ New w w' (ar F u (checkR a)) := by
 have H := Aside0.mk h
 have HSA := Aside0.mk hsm
 obtain ⟨vm, vd, rfl, r1, r2⟩ := h
 have HI := Aside0.mk (((Sep.start w []).alloc (g := w.heap.size) rfl (arrC a vm vd) 34).alloc (g := w.heap.size + 1) (by simp) arrZ 34)
 clear r1 r2 hsm
 simp only [arrC, arrZ] at *
 obtain ⟨k0, k1, k2, k3, k4, k5, k6, k7, k8, k9, k10, k11, k12⟩ := thirteen (HI.out.get 1 rfl)
 obtain ⟨l0, l1, l2, l3, l4, l5, l6, l7, l8, l9, l10, l11, l12⟩ := thirteen (HI.out.get 0 rfl)
 by_cases hA : arrB a = true ∧ a.down = false ∧ a.gen < 60000
 ·obtain ⟨hA, hdn, hge⟩ := hA
  have HA := Aside0.mk hA
  have HDN := Aside0.mk hdn
  have HGE := Aside0.mk (show 0 ≤ a.gen ∧ a.gen < 60000 by have := (arrB_P hA).gen; simp [inR] at this; omega)
  have HMK := Aside0.mk (show (arrB a && (!a.down && decide (a.gen < 60000))) = true by rw [hA, hdn, decide_eq_true hge]; rfl)
  have HR := Aside0.mk (show checkR a = checkV a by unfold checkR; rw [if_pos (by rw [hA, hdn, decide_eq_true hge]; rfl)])
  clear hA hge hdn
  have HP := Aside0.mk (arrB_P HA.out)
  have HFU := Aside0.mk (show a.fuse ≤ 1000 by have := HP.out.fuse; simp [inR] at this; omega)
  have hml : 0 < a.mems.length := by have := HP.out.geo; have := HP.out.len; simp [geoB, inR] at *; omega
  have HML := Aside0.mk hml
  clear hml
  go_enter Tryz.func25, Tryz.ntmps25
  go_upto_region 2 with (first
   | (go_at_call 35; refine (c_copyArr (ArrR_below H.out HI.out.toBelow) HSA.out).mono ?_; rintro e w2 ⟨u2, F2, rfl, hn⟩; have hs2 := HI.out.new hn; obtain ⟨A1, c1, A2, c2, F1, F3, rfl, hs3⟩ := Sep.ofArr hs2; simp only [arrC] at *; have HS2 := Aside0.mk hs3; clear hs2 hs3 hn k0 k1 k2 k3 k4 k5 k6 k7 k8 k9 k10 k11 k12 l0 l1 l2 l3 l4 l5 l6 l7 l8 l9 l10 l11 l12)
   | fail)
  have hB := HS2.out.alloc (g := w2.heap.size) rfl #[.int .i64 a.id, .int .i64 a.gn, .int .i64 a.gs, .slice A1 a.mems.length c1, .int .i64 a.lost, .int .i64 a.built, .int .i64 a.seq, .int .i64 a.tail, .int .i64 a.gen, .slice A2 a.dirty.length c2, .int .i64 a.fuse, .bool a.down, .bool a.broken] 34
  generalize hgg : w2.heap.size = g3 at *
  generalize hww : w2.alloc (.cells #[.int .i64 a.id, .int .i64 a.gn, .int .i64 a.gs, .slice A1 a.mems.length c1, .int .i64 a.lost, .int .i64 a.built, .int .i64 a.seq, .int .i64 a.tail, .int .i64 a.gen, .slice A2 a.dirty.length c2, .int .i64 a.fuse, .bool a.down, .bool a.broken] 34 (0, 0)) = w3 at *
  have HS3 := Aside0.mk hB
  clear hB hgg hww HS2
  obtain ⟨l0, l1, l2, l3, l4, l5, l6, l7, l8, l9, l10, l11, l12⟩ := thirteen (HS3.out.get 0 rfl)
  obtain ⟨k0, k1, k2, k3, k4, k5, k6, k7, k8, k9, k10, k11, k12⟩ := thirteen (HS3.out.get 4 rfl)
  obtain ⟨z0, z1, z2, z3, z4, z5, z6, z7, z8, z9, z10, z11, z12⟩ := thirteen (HS3.out.get 3 rfl)
  have gz := blk_frozen (HS3.out.get 3 rfl)
  obtain ⟨hh, cap9, hv9, _, _⟩ := O_form (show oMem.O 89 w3 F1 (.slice A1 a.mems.length c1) a.mems from HS3.out.get 1 rfl) HML.out
  obtain rfl := (Value.slice.inj hv9).1
  clear hv9
  go_upto_region 4 with (first
   | (go_at_call 64; refine (c_implCheckF HS4.out rfl HSA.out.1 HDN.out HFU.out HSA.out.2.1 HGE.out).mono ?_; rintro e w5 ⟨F5, rfl, hs5⟩; simp only [arrC] at hs5; have HS5 := Aside0.mk hs5; clear hs5 gz k0 k1 k2 k3 k4 k5 k6 k7 k8 k9 k10 k11 k12 l0 l1 l2 l3 l4 l5 l6 l7 l8 l9 l10 l11 l12 z0 z1 z2 z3 z4 z5 z6 z7 z8 z9 z10 z11 z12; obtain ⟨l0, l1, l2, l3, l4, l5, l6, l7, l8, l9, l10, l11, l12⟩ := thirteen (HS5.out.get 0 rfl); obtain ⟨z0, z1, z2, z3, z4, z5, z6, z7, z8, z9, z10, z11, z12⟩ := thirteen (HS5.out.get 3 rfl); have gz := blk_frozen (HS5.out.get 3 rfl))
   | (go_at_call 61; refine (c_markable (ArrR_below H.out HS3.out.toBelow) HSA.out).mono ?_; rw [HMK.out]; rintro e w4 ⟨rfl, hb⟩; have HS4 := Aside0.mk (HS3.out.below hb); clear hb gz k0 k1 k2 k3 k4 k5 k6 k7 k8 k9 k10 k11 k12 l0 l1 l2 l3 l4 l5 l6 l7 l8 l9 l10 l11 l12 z0 z1 z2 z3 z4 z5 z6 z7 z8 z9 z10 z11 z12; obtain ⟨l0, l1, l2, l3, l4, l5, l6, l7, l8, l9, l10, l11, l12⟩ := thirteen (HS4.out.get 0 rfl); obtain ⟨k0, k1, k2, k3, k4, k5, k6, k7, k8, k9, k10, k11, k12⟩ := thirteen (HS4.out.get 4 rfl); obtain ⟨z0, z1, z2, z3, z4, z5, z6, z7, z8, z9, z10, z11, z12⟩ := thirteen (HS4.out.get 3 rfl); have gz := blk_frozen (HS4.out.get 3 rfl); first | (have hnd := (congrArg (!·) HDN.out : (!a.down) = _); simp only [Bool.not_false, Bool.not_true] at hnd) | skip)
   | fail)
  first | clear H | skip
  first | clear HI | skip
  first | clear HSA | skip
  first | clear hnd | skip
  first | clear HS3 | skip
  first | clear HS4 | skip
  first | clear HA | skip
  first | clear HDN | skip
  first | clear HMK | skip
  first | clear HFU | skip
  first | clear HML | skip
  first | clear HGE | skip
  go_wp2
  have HE := (((((((((((((HS5.out.setb 3 rfl 0 (.int .i64 (checkV a).id) (cs' := #[.int .i64 (checkV a).id, .int .i64 0, .int .i64 0, .slice none 0 0, .int .i64 0, .int .i64 0, .int .i64 0, .int .i64 0, .int .i64 0, .slice none 0 0, .int .i64 0, .bool false, .bool false]) rfl).setb 3 rfl 1 (.int .i64 (checkV a).gn) (cs' := #[.int .i64 (checkV a).id, .int .i64 (checkV a).gn, .int .i64 0, .slice none 0 0, .int .i64 0, .int .i64 0, .int .i64 0, .int .i64 0, .int .i64 0, .slice none 0 0, .int .i64 0, .bool false, .bool false]) rfl).setb 3 rfl 2 (.int .i64 (checkV a).gs) (cs' := #[.int .i64 (checkV a).id, .int .i64 (checkV a).gn, .int .i64 (checkV a).gs, .slice none 0 0, .int .i64 0, .int .i64 0, .int .i64 0, .int .i64 0, .int .i64 0, .slice none 0 0, .int .i64 0, .bool false, .bool false]) rfl).setb 3 rfl 3 (.slice (some ⟨hh, 0, none⟩) a.mems.length c1) (cs' := #[.int .i64 (checkV a).id, .int .i64 (checkV a).gn, .int .i64 (checkV a).gs, .slice (some ⟨hh, 0, none⟩) a.mems.length c1, .int .i64 0, .int .i64 0, .int .i64 0, .int .i64 0, .int .i64 0, .slice none 0 0, .int .i64 0, .bool false, .bool false]) rfl).setb 3 rfl 4 (.int .i64 (checkV a).lost) (cs' := #[.int .i64 (checkV a).id, .int .i64 (checkV a).gn, .int .i64 (checkV a).gs, .slice (some ⟨hh, 0, none⟩) a.mems.length c1, .int .i64 (checkV a).lost, .int .i64 0, .int .i64 0, .int .i64 0, .int .i64 0, .slice none 0 0, .int .i64 0, .bool false, .bool false]) rfl).setb 3 rfl 5 (.int .i64 (checkV a).built) (cs' := #[.int .i64 (checkV a).id, .int .i64 (checkV a).gn, .int .i64 (checkV a).gs, .slice (some ⟨hh, 0, none⟩) a.mems.length c1, .int .i64 (checkV a).lost, .int .i64 (checkV a).built, .int .i64 0, .int .i64 0, .int .i64 0, .slice none 0 0, .int .i64 0, .bool false, .bool false]) rfl).setb 3 rfl 6 (.int .i64 (checkV a).seq) (cs' := #[.int .i64 (checkV a).id, .int .i64 (checkV a).gn, .int .i64 (checkV a).gs, .slice (some ⟨hh, 0, none⟩) a.mems.length c1, .int .i64 (checkV a).lost, .int .i64 (checkV a).built, .int .i64 (checkV a).seq, .int .i64 0, .int .i64 0, .slice none 0 0, .int .i64 0, .bool false, .bool false]) rfl).setb 3 rfl 7 (.int .i64 (checkV a).tail) (cs' := #[.int .i64 (checkV a).id, .int .i64 (checkV a).gn, .int .i64 (checkV a).gs, .slice (some ⟨hh, 0, none⟩) a.mems.length c1, .int .i64 (checkV a).lost, .int .i64 (checkV a).built, .int .i64 (checkV a).seq, .int .i64 (checkV a).tail, .int .i64 0, .slice none 0 0, .int .i64 0, .bool false, .bool false]) rfl).setb 3 rfl 8 (.int .i64 (checkV a).gen) (cs' := #[.int .i64 (checkV a).id, .int .i64 (checkV a).gn, .int .i64 (checkV a).gs, .slice (some ⟨hh, 0, none⟩) a.mems.length c1, .int .i64 (checkV a).lost, .int .i64 (checkV a).built, .int .i64 (checkV a).seq, .int .i64 (checkV a).tail, .int .i64 (checkV a).gen, .slice none 0 0, .int .i64 0, .bool false, .bool false]) rfl).setb 3 rfl 9 (.slice A2 a.dirty.length c2) (cs' := #[.int .i64 (checkV a).id, .int .i64 (checkV a).gn, .int .i64 (checkV a).gs, .slice (some ⟨hh, 0, none⟩) a.mems.length c1, .int .i64 (checkV a).lost, .int .i64 (checkV a).built, .int .i64 (checkV a).seq, .int .i64 (checkV a).tail, .int .i64 (checkV a).gen, .slice A2 a.dirty.length c2, .int .i64 0, .bool false, .bool false]) rfl).setb 3 rfl 10 (.int .i64 (checkV a).fuse) (cs' := #[.int .i64 (checkV a).id, .int .i64 (checkV a).gn, .int .i64 (checkV a).gs, .slice (some ⟨hh, 0, none⟩) a.mems.length c1, .int .i64 (checkV a).lost, .int .i64 (checkV a).built, .int .i64 (checkV a).seq, .int .i64 (checkV a).tail, .int .i64 (checkV a).gen, .slice A2 a.dirty.length c2, .int .i64 (checkV a).fuse, .bool false, .bool false]) rfl).setb 3 rfl 11 (.bool (checkV a).down) (cs' := #[.int .i64 (checkV a).id, .int .i64 (checkV a).gn, .int .i64 (checkV a).gs, .slice (some ⟨hh, 0, none⟩) a.mems.length c1, .int .i64 (checkV a).lost, .int .i64 (checkV a).built, .int .i64 (checkV a).seq, .int .i64 (checkV a).tail, .int .i64 (checkV a).gen, .slice A2 a.dirty.length c2, .int .i64 (checkV a).fuse, .bool (checkV a).down, .bool false]) rfl).setb 3 rfl 12 (.bool (checkV a).broken) (cs' := #[.int .i64 (checkV a).id, .int .i64 (checkV a).gn, .int .i64 (checkV a).gs, .slice (some ⟨hh, 0, none⟩) a.mems.length c1, .int .i64 (checkV a).lost, .int .i64 (checkV a).built, .int .i64 (checkV a).seq, .int .i64 (checkV a).tail, .int .i64 (checkV a).gen, .slice A2 a.dirty.length c2, .int .i64 (checkV a).fuse, .bool (checkV a).down, .bool (checkV a).broken]) rfl)
  simp only [qqN] at HE
  refine bodyPost_ret (results_cell_row rfl _ _ (w.heap.size + 1) 34 #[.int .i64 (checkV a).id, .int .i64 (checkV a).gn, .int .i64 (checkV a).gs, .slice (some ⟨hh, 0, none⟩) a.mems.length c1, .int .i64 (checkV a).lost, .int .i64 (checkV a).built, .int .i64 (checkV a).seq, .int .i64 (checkV a).tail, .int .i64 (checkV a).gen, .slice A2 a.dirty.length c2, .int .i64 (checkV a).fuse, .bool (checkV a).down, .bool (checkV a).broken] (0, 0) _ rfl (HE.get 3 rfl) Tryz.underlying34 rfl (by kernel_rfl)) rfl ?_
  have hB := HE.sel [1, 2] (by decide) (by simp)
  simp only [qqN] at hB
  have hd := checkV_dirty a
  have hlm : (checkV a).mems.length = a.mems.length := checkV_len a
  rw [HR.out]
  rw [← hd] at hB ⊢
  exact ⟨_, _, rfl, (Sep.toArr (a := checkV a) hB).toNew 0 rfl⟩
 ·have HMK := Aside0.mk (show (arrB a && (!a.down && decide (a.gen < 60000))) = false by rw [Bool.eq_false_iff]; intro hc; simp only [Bool.and_eq_true, Bool.not_eq_true', decide_eq_true_eq] at hc; exact hA hc)
  have HR := Aside0.mk (show checkR a = a by unfold checkR; rw [if_neg (by intro hc; simp only [Bool.and_eq_true, Bool.not_eq_true', decide_eq_true_eq] at hc; exact hA ⟨hc.1.1, hc.1.2, hc.2⟩)])
  clear hA
  go_enter Tryz.func25, Tryz.ntmps25
  go_upto_region 2 with (first
   | (go_at_call 35; refine (c_copyArr (ArrR_below H.out HI.out.toBelow) HSA.out).mono ?_; rintro e w2 ⟨u2, F2, rfl, hn⟩; have hs2 := HI.out.new hn; obtain ⟨A1, c1, A2, c2, F1, F3, rfl, hs3⟩ := Sep.ofArr hs2; simp only [arrC] at *; have HS2 := Aside0.mk hs3; clear hs2 hs3 hn k0 k1 k2 k3 k4 k5 k6 k7 k8 k9 k10 k11 k12 l0 l1 l2 l3 l4 l5 l6 l7 l8 l9 l10 l11 l12)
   | fail)
  have hB := HS2.out.alloc (g := w2.heap.size) rfl #[.int .i64 a.id, .int .i64 a.gn, .int .i64 a.gs, .slice A1 a.mems.length c1, .int .i64 a.lost, .int .i64 a.built, .int .i64 a.seq, .int .i64 a.tail, .int .i64 a.gen, .slice A2 a.dirty.length c2, .int .i64 a.fuse, .bool a.down, .bool a.broken] 34
  generalize hgg : w2.heap.size = g3 at *
  generalize hww : w2.alloc (.cells #[.int .i64 a.id, .int .i64 a.gn, .int .i64 a.gs, .slice A1 a.mems.length c1, .int .i64 a.lost, .int .i64 a.built, .int .i64 a.seq, .int .i64 a.tail, .int .i64 a.gen, .slice A2 a.dirty.length c2, .int .i64 a.fuse, .bool a.down, .bool a.broken] 34 (0, 0)) = w3 at *
  have HS3 := Aside0.mk hB
  clear hB hgg hww HS2
  obtain ⟨l0, l1, l2, l3, l4, l5, l6, l7, l8, l9, l10, l11, l12⟩ := thirteen (HS3.out.get 0 rfl)
  obtain ⟨k0, k1, k2, k3, k4, k5, k6, k7, k8, k9, k10, k11, k12⟩ := thirteen (HS3.out.get 4 rfl)
  obtain ⟨z0, z1, z2, z3, z4, z5, z6, z7, z8, z9, z10, z11, z12⟩ := thirteen (HS3.out.get 3 rfl)
  have gz := blk_frozen (HS3.out.get 3 rfl)
  go_upto_region 4 with (first
   | (go_at_call 61; refine (c_markable (ArrR_below H.out HS3.out.toBelow) HSA.out).mono ?_; rw [HMK.out]; rintro e w4 ⟨rfl, hb⟩; have HS4 := Aside0.mk (HS3.out.below hb); clear hb gz k0 k1 k2 k3 k4 k5 k6 k7 k8 k9 k10 k11 k12 l0 l1 l2 l3 l4 l5 l6 l7 l8 l9 l10 l11 l12 z0 z1 z2 z3 z4 z5 z6 z7 z8 z9 z10 z11 z12; obtain ⟨l0, l1, l2, l3, l4, l5, l6, l7, l8, l9, l10, l11, l12⟩ := thirteen (HS4.out.get 0 rfl); obtain ⟨k0, k1, k2, k3, k4, k5, k6, k7, k8, k9, k10, k11, k12⟩ := thirteen (HS4.out.get 4 rfl); obtain ⟨z0, z1, z2, z3, z4, z5, z6, z7, z8, z9, z10, z11, z12⟩ := thirteen (HS4.out.get 3 rfl); have gz := blk_frozen (HS4.out.get 3 rfl); first | (have hnd := (congrArg (!·) HDN.out : (!a.down) = _); simp only [Bool.not_false, Bool.not_true] at hnd) | skip)
   | fail)
  first | clear H | skip
  first | clear HI | skip
  first | clear HSA | skip
  first | clear hnd | skip
  first | clear HS3 | skip
  first | clear HA | skip
  first | clear HDN | skip
  first | clear HMK | skip
  first | clear k0 k1 k2 k3 k4 k5 k6 k7 k8 k9 k10 k11 k12 | skip
  go_wp2
  have HE := (((((((((((((HS4.out.setb 3 rfl 0 (.int .i64 a.id) (cs' := #[.int .i64 a.id, .int .i64 0, .int .i64 0, .slice none 0 0, .int .i64 0, .int .i64 0, .int .i64 0, .int .i64 0, .int .i64 0, .slice none 0 0, .int .i64 0, .bool false, .bool false]) rfl).setb 3 rfl 1 (.int .i64 a.gn) (cs' := #[.int .i64 a.id, .int .i64 a.gn, .int .i64 0, .slice none 0 0, .int .i64 0, .int .i64 0, .int .i64 0, .int .i64 0, .int .i64 0, .slice none 0 0, .int .i64 0, .bool false, .bool false]) rfl).setb 3 rfl 2 (.int .i64 a.gs) (cs' := #[.int .i64 a.id, .int .i64 a.gn, .int .i64 a.gs, .slice none 0 0, .int .i64 0, .int .i64 0, .int .i64 0, .int .i64 0, .int .i64 0, .slice none 0 0, .int .i64 0, .bool false, .bool false]) rfl).setb 3 rfl 3 (.slice A1 a.mems.length c1) (cs' := #[.int .i64 a.id, .int .i64 a.gn, .int .i64 a.gs, .slice A1 a.mems.length c1, .int .i64 0, .int .i64 0, .int .i64 0, .int .i64 0, .int .i64 0, .slice none 0 0, .int .i64 0, .bool false, .bool false]) rfl).setb 3 rfl 4 (.int .i64 a.lost) (cs' := #[.int .i64 a.id, .int .i64 a.gn, .int .i64 a.gs, .slice A1 a.mems.length c1, .int .i64 a.lost, .int .i64 0, .int .i64 0, .int .i64 0, .int .i64 0, .slice none 0 0, .int .i64 0, .bool false, .bool false]) rfl).setb 3 rfl 5 (.int .i64 a.built) (cs' := #[.int .i64 a.id, .int .i64 a.gn, .int .i64 a.gs, .slice A1 a.mems.length c1, .int .i64 a.lost, .int .i64 a.built, .int .i64 0, .int .i64 0, .int .i64 0, .slice none 0 0, .int .i64 0, .bool false, .bool false]) rfl).setb 3 rfl 6 (.int .i64 a.seq) (cs' := #[.int .i64 a.id, .int .i64 a.gn, .int .i64 a.gs, .slice A1 a.mems.length c1, .int .i64 a.lost, .int .i64 a.built, .int .i64 a.seq, .int .i64 0, .int .i64 0, .slice none 0 0, .int .i64 0, .bool false, .bool false]) rfl).setb 3 rfl 7 (.int .i64 a.tail) (cs' := #[.int .i64 a.id, .int .i64 a.gn, .int .i64 a.gs, .slice A1 a.mems.length c1, .int .i64 a.lost, .int .i64 a.built, .int .i64 a.seq, .int .i64 a.tail, .int .i64 0, .slice none 0 0, .int .i64 0, .bool false, .bool false]) rfl).setb 3 rfl 8 (.int .i64 a.gen) (cs' := #[.int .i64 a.id, .int .i64 a.gn, .int .i64 a.gs, .slice A1 a.mems.length c1, .int .i64 a.lost, .int .i64 a.built, .int .i64 a.seq, .int .i64 a.tail, .int .i64 a.gen, .slice none 0 0, .int .i64 0, .bool false, .bool false]) rfl).setb 3 rfl 9 (.slice A2 a.dirty.length c2) (cs' := #[.int .i64 a.id, .int .i64 a.gn, .int .i64 a.gs, .slice A1 a.mems.length c1, .int .i64 a.lost, .int .i64 a.built, .int .i64 a.seq, .int .i64 a.tail, .int .i64 a.gen, .slice A2 a.dirty.length c2, .int .i64 0, .bool false, .bool false]) rfl).setb 3 rfl 10 (.int .i64 a.fuse) (cs' := #[.int .i64 a.id, .int .i64 a.gn, .int .i64 a.gs, .slice A1 a.mems.length c1, .int .i64 a.lost, .int .i64 a.built, .int .i64 a.seq, .int .i64 a.tail, .int .i64 a.gen, .slice A2 a.dirty.length c2, .int .i64 a.fuse, .bool false, .bool false]) rfl).setb 3 rfl 11 (.bool a.down) (cs' := #[.int .i64 a.id, .int .i64 a.gn, .int .i64 a.gs, .slice A1 a.mems.length c1, .int .i64 a.lost, .int .i64 a.built, .int .i64 a.seq, .int .i64 a.tail, .int .i64 a.gen, .slice A2 a.dirty.length c2, .int .i64 a.fuse, .bool a.down, .bool false]) rfl).setb 3 rfl 12 (.bool a.broken) (cs' := #[.int .i64 a.id, .int .i64 a.gn, .int .i64 a.gs, .slice A1 a.mems.length c1, .int .i64 a.lost, .int .i64 a.built, .int .i64 a.seq, .int .i64 a.tail, .int .i64 a.gen, .slice A2 a.dirty.length c2, .int .i64 a.fuse, .bool a.down, .bool a.broken]) rfl)
  simp only [qqN] at HE
  refine bodyPost_ret (results_cell_row rfl _ _ (w.heap.size + 1) 34 #[.int .i64 a.id, .int .i64 a.gn, .int .i64 a.gs, .slice A1 a.mems.length c1, .int .i64 a.lost, .int .i64 a.built, .int .i64 a.seq, .int .i64 a.tail, .int .i64 a.gen, .slice A2 a.dirty.length c2, .int .i64 a.fuse, .bool a.down, .bool a.broken] (0, 0) _ rfl (HE.get 3 rfl) Tryz.underlying34 rfl (by kernel_rfl)) rfl ?_
  have hB := HE.sel [1, 2] (by decide) (by simp)
  simp only [qqN] at hB
  rw [HR.out]
  exact ⟨_, _, rfl, (Sep.toArr (a := a) hB).toNew 0 rfl⟩
set_option maxHeartbeats 8000000 in
set_option maxRecDepth 100000 in
theorem c_specCheck {w : World} {v : Value} {a : ArrV} (h : ArrR w v a) (hsm : SmallA a) :
  Calls Tryz.prog 26 #[v] w fun e w' => ∃ u F, e = .returned u ∧ New w w' (ar F u (checkR a)) := by
 have H := Aside0.mk h
 have HSA := Aside0.mk hsm
 obtain ⟨vm, vd, rfl, r1, r2⟩ := h
 have HI := Aside0.mk (((Sep.start w []).alloc (g := w.heap.size) rfl (arrC a vm vd) 34).alloc (g := w.heap.size + 1) (by simp) arrZ 34)
 clear r1 r2 hsm
 simp only [arrC, arrZ] at *
 obtain ⟨k0, k1, k2, k3, k4, k5, k6, k7, k8, k9, k10, k11, k12⟩ := thirteen (HI.out.get 1 rfl)
 obtain ⟨l0, l1, l2, l3, l4, l5, l6, l7, l8, l9, l10, l11, l12⟩ := thirteen (HI.out.get 0 rfl)
 by_cases hA : arrB a = true
 ·have HA := Aside0.mk hA
  clear hA
  by_cases hdn : a.down = false
  ·have HDN := Aside0.mk hdn
   clear hdn
   by_cases hge : a.gen < 60000
   ·have hgb : decide (a.gen < 60000) = true := decide_eq_true hge
    have HGE := Aside0.mk (show 0 ≤ a.gen ∧ a.gen < 60000 by have := (arrB_P HA.out).gen; simp [inR] at this; omega)
    have HR := Aside0.mk (show checkR a = checkV a by unfold checkR; rw [if_pos (by rw [HA.out, HDN.out, decide_eq_true hge]; rfl)])
    clear hge
    have HP := Aside0.mk (arrB_P HA.out)
    have HFU := Aside0.mk (show a.fuse ≤ 1000 by have := HP.out.fuse; simp [inR] at this; omega)
    have hml : 0 < a.mems.length := by have := HP.out.geo; have := HP.out.len; simp [geoB, inR] at *; omega
    have HML := Aside0.mk hml
    clear hml
    go_enter Tryz.func26, Tryz.ntmps26
    go_upto_region 2 with (first
     | (go_at_call 29; refine (c_l6Copy (ArrR_below H.out HI.out.toBelow) HSA.out).mono ?_; rintro e w2 ⟨u2, F2, rfl, hn⟩; have hs2 := HI.out.new hn; obtain ⟨A1, c1, A2, c2, F1, F3, rfl, hs3⟩ := Sep.ofArr hs2; simp only [arrC] at *; have HS2 := Aside0.mk hs3; clear hs2 hs3 hn k0 k1 k2 k3 k4 k5 k6 k7 k8 k9 k10 k11 k12 l0 l1 l2 l3 l4 l5 l6 l7 l8 l9 l10 l11 l12)
     | fail)
    have hB := HS2.out.alloc (g := w2.heap.size) rfl #[.int .i64 a.id, .int .i64 a.gn, .int .i64 a.gs, .slice A1 a.mems.length c1, .int .i64 a.lost, .int .i64 a.built, .int .i64 a.seq, .int .i64 a.tail, .int .i64 a.gen, .slice A2 a.dirty.length c2, .int .i64 a.fuse, .bool a.down, .bool a.broken] 34
    generalize hgg : w2.heap.size = g3 at *
    generalize hww : w2.alloc (.cells #[.int .i64 a.id, .int .i64 a.gn, .int .i64 a.gs, .slice A1 a.mems.length c1, .int .i64 a.lost, .int .i64 a.built, .int .i64 a.seq, .int .i64 a.tail, .int .i64 a.gen, .slice A2 a.dirty.length c2, .int .i64 a.fuse, .bool a.down, .bool a.broken] 34 (0, 0)) = w3 at *
    have HS3 := Aside0.mk hB
    clear hB hgg hww HS2
    obtain ⟨l0, l1, l2, l3, l4, l5, l6, l7, l8, l9, l10, l11, l12⟩ := thirteen (HS3.out.get 0 rfl)
    obtain ⟨k0, k1, k2, k3, k4, k5, k6, k7, k8, k9, k10, k11, k12⟩ := thirteen (HS3.out.get 4 rfl)
    obtain ⟨z0, z1, z2, z3, z4, z5, z6, z7, z8, z9, z10, z11, z12⟩ := thirteen (HS3.out.get 3 rfl)
    have gz := blk_frozen (HS3.out.get 3 rfl)
    obtain ⟨hh, cap9, hv9, _, _⟩ := O_form (show oMem.O 89 w3 F1 (.slice A1 a.mems.length c1) a.mems from HS3.out.get 1 rfl) HML.out
    obtain rfl := (Value.slice.inj hv9).1
    clear hv9
    go_upto_region 4 with (first
     | (go_at_call 65; refine (c_specCheckF HS4.out rfl HSA.out.1 HDN.out HFU.out HSA.out.2.1 HGE.out).mono ?_; rintro e w5 ⟨F5, rfl, hs5⟩; simp only [arrC] at hs5; have HS5 := Aside0.mk hs5; clear hs5 gz k0 k1 k2 k3 k4 k5 k6 k7 k8 k9 k10 k11 k12 l0 l1 l2 l3 l4 l5 l6 l7 l8 l9 l10 l11 l12 z0 z1 z2 z3 z4 z5 z6 z7 z8 z9 z10 z11 z12; obtain ⟨l0, l1, l2, l3, l4, l5, l6, l7, l8, l9, l10, l11, l12⟩ := thirteen (HS5.out.get 0 rfl); obtain ⟨z0, z1, z2, z3, z4, z5, z6, z7, z8, z9, z10, z11, z12⟩ := thirteen (HS5.out.get 3 rfl); have gz := blk_frozen (HS5.out.get 3 rfl))
     | (go_at_call 59; refine (c_specArrOk (ArrR_below H.out HS3.out.toBelow) HSA.out).mono ?_; rw [HA.out]; rintro e w4 ⟨rfl, hb⟩; have HS4 := Aside0.mk (HS3.out.below hb); clear hb gz k0 k1 k2 k3 k4 k5 k6 k7 k8 k9 k10 k11 k12 l0 l1 l2 l3 l4 l5 l6 l7 l8 l9 l10 l11 l12 z0 z1 z2 z3 z4 z5 z6 z7 z8 z9 z10 z11 z12; obtain ⟨l0, l1, l2, l3, l4, l5, l6, l7, l8, l9, l10, l11, l12⟩ := thirteen (HS4.out.get 0 rfl); obtain ⟨k0, k1, k2, k3, k4, k5, k6, k7, k8, k9, k10, k11, k12⟩ := thirteen (HS4.out.get 4 rfl); obtain ⟨z0, z1, z2, z3, z4, z5, z6, z7, z8, z9, z10, z11, z12⟩ := thirteen (HS4.out.get 3 rfl); have gz := blk_frozen (HS4.out.get 3 rfl); first | (have hnd := (congrArg (!·) HDN.out : (!a.down) = _); simp only [Bool.not_false, Bool.not_true] at hnd) | skip)
     | fail)
    first | clear H | skip
    first | clear HI | skip
    first | clear HSA | skip
    first | clear hnd | skip
    first | clear HS3 | skip
    first | clear HS4 | skip
    first | clear HA | skip
    first | clear HDN | skip
    first | clear HMK | skip
    first | clear HFU | skip
    first | clear HML | skip
    first | clear HGE | skip
    go_wp2
    have HE := (((((((((((((HS5.out.setb 3 rfl 0 (.int .i64 (checkV a).id) (cs' := #[.int .i64 (checkV a).id, .int .i64 0, .int .i64 0, .slice none 0 0, .int .i64 0, .int .i64 0, .int .i64 0, .int .i64 0, .int .i64 0, .slice none 0 0, .int .i64 0, .bool false, .bool false]) rfl).setb 3 rfl 1 (.int .i64 (checkV a).gn) (cs' := #[.int .i64 (checkV a).id, .int .i64 (checkV a).gn, .int .i64 0, .slice none 0 0, .int .i64 0, .int .i64 0, .int .i64 0, .int .i64 0, .int .i64 0, .slice none 0 0, .int .i64 0, .bool false, .bool false]) rfl).setb 3 rfl 2 (.int .i64 (checkV a).gs) (cs' := #[.int .i64 (checkV a).id, .int .i64 (checkV a).gn, .int .i64 (checkV a).gs, .slice none 0 0, .int .i64 0, .int .i64 0, .int .i64 0, .int .i64 0, .int .i64 0, .slice none 0 0, .int .i64 0, .bool false, .bool false]) rfl).setb 3 rfl 3 (.slice (some ⟨hh, 0, none⟩) a.mems.length c1) (cs' := #[.int .i64 (checkV a).id, .int .i64 (checkV a).gn, .int .i64 (checkV a).gs, .slice (some ⟨hh, 0, none⟩) a.mems.length c1, .int .i64 0, .int .i64 0, .int .i64 0, .int .i64 0, .int .i64 0, .slice none 0 0, .int .i64 0, .bool false, .bool false]) rfl).setb 3 rfl 4 (.int .i64 (checkV a).lost) (cs' := #[.int .i64 (checkV a).id, .int .i64 (checkV a).gn, .int .i64 (checkV a).gs, .slice (some ⟨hh, 0, none⟩) a.mems.length c1, .int .i64 (checkV a).lost, .int .i64 0, .int .i64 0, .int .i64 0, .int .i64 0, .slice none 0 0, .int .i64 0, .bool false, .bool false]) rfl).setb 3 rfl 5 (.int .i64 (checkV a).built) (cs' := #[.int .i64 (checkV a).id, .int .i64 (checkV a).gn, .int .i64 (checkV a).gs, .slice (some ⟨hh, 0, none⟩) a.mems.length c1, .int .i64 (checkV a).lost, .int .i64 (checkV a).built, .int .i64 0, .int .i64 0, .int .i64 0, .slice none 0 0, .int .i64 0, .bool false, .bool false]) rfl).setb 3 rfl 6 (.int .i64 (checkV a).seq) (cs' := #[.int .i64 (checkV a).id, .int .i64 (checkV a).gn, .int .i64 (checkV a).gs, .slice (some ⟨hh, 0, none⟩) a.mems.length c1, .int .i64 (checkV a).lost, .int .i64 (checkV a).built, .int .i64 (checkV a).seq, .int .i64 0, .int .i64 0, .slice none 0 0, .int .i64 0, .bool false, .bool false]) rfl).setb 3 rfl 7 (.int .i64 (checkV a).tail) (cs' := #[.int .i64 (checkV a).id, .int .i64 (checkV a).gn, .int .i64 (checkV a).gs, .slice (some ⟨hh, 0, none⟩) a.mems.length c1, .int .i64 (checkV a).lost, .int .i64 (checkV a).built, .int .i64 (checkV a).seq, .int .i64 (checkV a).tail, .int .i64 0, .slice none 0 0, .int .i64 0, .bool false, .bool false]) rfl).setb 3 rfl 8 (.int .i64 (checkV a).gen) (cs' := #[.int .i64 (checkV a).id, .int .i64 (checkV a).gn, .int .i64 (checkV a).gs, .slice (some ⟨hh, 0, none⟩) a.mems.length c1, .int .i64 (checkV a).lost, .int .i64 (checkV a).built, .int .i64 (checkV a).seq, .int .i64 (checkV a).tail, .int .i64 (checkV a).gen, .slice none 0 0, .int .i64 0, .bool false, .bool false]) rfl).setb 3 rfl 9 (.slice A2 a.dirty.length c2) (cs' := #[.int .i64 (checkV a).id, .int .i64 (checkV a).gn, .int .i64 (checkV a).gs, .slice (some ⟨hh, 0, none⟩) a.mems.length c1, .int .i64 (checkV a).lost, .int .i64 (checkV a).built, .int .i64 (checkV a).seq, .int .i64 (checkV a).tail, .int .i64 (checkV a).gen, .slice A2 a.dirty.length c2, .int .i64 0, .bool false, .bool false]) rfl).setb 3 rfl 10 (.int .i64 (checkV a).fuse) (cs' := #[.int .i64 (checkV a).id, .int .i64 (checkV a).gn, .int .i64 (checkV a).gs, .slice (some ⟨hh, 0, none⟩) a.mems.length c1, .int .i64 (checkV a).lost, .int .i64 (checkV a).built, .int .i64 (checkV a).seq, .int .i64 (checkV a).tail, .int .i64 (checkV a).gen, .slice A2 a.dirty.length c2, .int .i64 (checkV a).fuse, .bool false, .bool false]) rfl).setb 3 rfl 11 (.bool (checkV a).down) (cs' := #[.int .i64 (checkV a).id, .int .i64 (checkV a).gn, .int .i64 (checkV a).gs, .slice (some ⟨hh, 0, none⟩) a.mems.length c1, .int .i64 (checkV a).lost, .int .i64 (checkV a).built, .int .i64 (checkV a).seq, .int .i64 (checkV a).tail, .int .i64 (checkV a).gen, .slice A2 a.dirty.length c2, .int .i64 (checkV a).fuse, .bool (checkV a).down, .bool false]) rfl).setb 3 rfl 12 (.bool (checkV a).broken) (cs' := #[.int .i64 (checkV a).id, .int .i64 (checkV a).gn, .int .i64 (checkV a).gs, .slice (some ⟨hh, 0, none⟩) a.mems.length c1, .int .i64 (checkV a).lost, .int .i64 (checkV a).built, .int .i64 (checkV a).seq, .int .i64 (checkV a).tail, .int .i64 (checkV a).gen, .slice A2 a.dirty.length c2, .int .i64 (checkV a).fuse, .bool (checkV a).down, .bool (checkV a).broken]) rfl)
    simp only [qqN] at HE
    refine bodyPost_ret (results_cell_row rfl _ _ (w.heap.size + 1) 34 #[.int .i64 (checkV a).id, .int .i64 (checkV a).gn, .int .i64 (checkV a).gs, .slice (some ⟨hh, 0, none⟩) a.mems.length c1, .int .i64 (checkV a).lost, .int .i64 (checkV a).built, .int .i64 (checkV a).seq, .int .i64 (checkV a).tail, .int .i64 (checkV a).gen, .slice A2 a.dirty.length c2, .int .i64 (checkV a).fuse, .bool (checkV a).down, .bool (checkV a).broken] (0, 0) _ rfl (HE.get 3 rfl) Tryz.underlying34 rfl (by kernel_rfl)) rfl ?_
    have hB := HE.sel [1, 2] (by decide) (by simp)
    simp only [qqN] at hB
    have hd := checkV_dirty a
    have hlm : (checkV a).mems.length = a.mems.length := checkV_len a
    rw [HR.out]
    rw [← hd] at hB ⊢
    exact ⟨_, _, rfl, (Sep.toArr (a := checkV a) hB).toNew 0 rfl⟩
   ·have hgb : decide (a.gen < 60000) = false := decide_eq_false hge
    have HR := Aside0.mk (show checkR a = a by unfold checkR; rw [if_neg (by rw [HA.out, HDN.out, hgb]; simp)])
    go_enter Tryz.func26, Tryz.ntmps26
    go_upto_region 2 with (first
     | (go_at_call 29; refine (c_l6Copy (ArrR_below H.out HI.out.toBelow) HSA.out).mono ?_; rintro e w2 ⟨u2, F2, rfl, hn⟩; have hs2 := HI.out.new hn; obtain ⟨A1, c1, A2, c2, F1, F3, rfl, hs3⟩ := Sep.ofArr hs2; simp only [arrC] at *; have HS2 := Aside0.mk hs3; clear hs2 hs3 hn k0 k1 k2 k3 k4 k5 k6 k7 k8 k9 k10 k11 k12 l0 l1 l2 l3 l4 l5 l6 l7 l8 l9 l10 l11 l12)
     | fail)
    have hB := HS2.out.alloc (g := w2.heap.size) rfl #[.int .i64 a.id, .int .i64 a.gn, .int .i64 a.gs, .slice A1 a.mems.length c1, .int .i64 a.lost, .int .i64 a.built, .int .i64 a.seq, .int .i64 a.tail, .int .i64 a.gen, .slice A2 a.dirty.length c2, .int .i64 a.fuse, .bool a.down, .bool a.broken] 34
    generalize hgg : w2.heap.size = g3 at *
    generalize hww : w2.alloc (.cells #[.int .i64 a.id, .int .i64 a.gn, .int .i64 a.gs, .slice A1 a.mems.length c1, .int .i64 a.lost, .int .i64 a.built, .int .i64 a.seq, .int .i64 a.tail, .int .i64 a.gen, .slice A2 a.dirty.length c2, .int .i64 a.fuse, .bool a.down, .bool a.broken] 34 (0, 0)) = w3 at *
    have HS3 := Aside0.mk hB
    clear hB hgg hww HS2
    obtain ⟨l0, l1, l2, l3, l4, l5, l6, l7, l8, l9, l10, l11, l12⟩ := thirteen (HS3.out.get 0 rfl)
    obtain ⟨k0, k1, k2, k3, k4, k5, k6, k7, k8, k9, k10, k11, k12⟩ := thirteen (HS3.out.get 4 rfl)
    obtain ⟨z0, z1, z2, z3, z4, z5, z6, z7, z8, z9, z10, z11, z12⟩ := thirteen (HS3.out.get 3 rfl)
    have gz := blk_frozen (HS3.out.get 3 rfl)
    go_upto_region 4 with (first
     | (go_at_call 59; refine (c_specArrOk (ArrR_below H.out HS3.out.toBelow) HSA.out).mono ?_; rw [HA.out]; rintro e w4 ⟨rfl, hb⟩; have HS4 := Aside0.mk (HS3.out.below hb); clear hb gz k0 k1 k2 k3 k4 k5 k6 k7 k8 k9 k10 k11 k12 l0 l1 l2 l3 l4 l5 l6 l7 l8 l9 l10 l11 l12 z0 z1 z2 z3 z4 z5 z6 z7 z8 z9 z10 z11 z12; obtain ⟨l0, l1, l2, l3, l4, l5, l6, l7, l8, l9, l10, l11, l12⟩ := thirteen (HS4.out.get 0 rfl); obtain ⟨k0, k1, k2, k3, k4, k5, k6, k7, k8, k9, k10, k11, k12⟩ := thirteen (HS4.out.get 4 rfl); obtain ⟨z0, z1, z2, z3, z4, z5, z6, z7, z8, z9, z10, z11, z12⟩ := thirteen (HS4.out.get 3 rfl); have gz := blk_frozen (HS4.out.get 3 rfl); first | (have hnd := (congrArg (!·) HDN.out : (!a.down) = _); simp only [Bool.not_false, Bool.not_true] at hnd) | skip)
     | fail)
    first | clear H | skip
    first | clear HI | skip
    first | clear HSA | skip
    first | clear hnd | skip
    first | clear HS3 | skip
    first | clear HA | skip
    first | clear HDN | skip
    first | clear HMK | skip
    first | clear k0 k1 k2 k3 k4 k5 k6 k7 k8 k9 k10 k11 k12 | skip
    go_wp2
    have HE := (((((((((((((HS4.out.setb 3 rfl 0 (.int .i64 a.id) (cs' := #[.int .i64 a.id, .int .i64 0, .int .i64 0, .slice none 0 0, .int .i64 0, .int .i64 0, .int .i64 0, .int .i64 0, .int .i64 0, .slice none 0 0, .int .i64 0, .bool false, .bool false]) rfl).setb 3 rfl 1 (.int .i64 a.gn) (cs' := #[.int .i64 a.id, .int .i64 a.gn, .int .i64 0, .slice none 0 0, .int .i64 0, .int .i64 0, .int .i64 0, .int .i64 0, .int .i64 0, .slice none 0 0, .int .i64 0, .bool false, .bool false]) rfl).setb 3 rfl 2 (.int .i64 a.gs) (cs' := #[.int .i64 a.id, .int .i64 a.gn, .int .i64 a.gs, .slice none 0 0, .int .i64 0, .int .i64 0, .int .i64 0, .int .i64 0, .int .i64 0, .slice none 0 0, .int .i64 0, .bool false, .bool false]) rfl).setb 3 rfl 3 (.slice A1 a.mems.length c1) (cs' := #[.int .i64 a.id, .int .i64 a.gn, .int .i64 a.gs, .slice A1 a.mems.length c1, .int .i64 0, .int .i64 0, .int .i64 0, .int .i64 0, .int .i64 0, .slice none 0 0, .int .i64 0, .bool false, .bool false]) rfl).setb 3 rfl 4 (.int .i64 a.lost) (cs' := #[.int .i64 a.id, .int .i64 a.gn, .int .i64 a.gs, .slice A1 a.mems.length c1, .int .i64 a.lost, .int .i64 0, .int .i64 0, .int .i64 0, .int .i64 0, .slice none 0 0, .int .i64 0, .bool false, .bool false]) rfl).setb 3 rfl 5 (.int .i64 a.built) (cs' := #[.int .i64 a.id, .int .i64 a.gn, .int .i64 a.gs, .slice A1 a.mems.length c1, .int .i64 a.lost, .int .i64 a.built, .int .i64 0, .int .i64 0, .int .i64 0, .slice none 0 0, .int .i64 0, .bool false, .bool false]) rfl).setb 3 rfl 6 (.int .i64 a.seq) (cs' := #[.int .i64 a.id, .int .i64 a.gn, .int .i64 a.gs, .slice A1 a.mems.length c1, .int .i64 a.lost, .int .i64 a.built, .int .i64 a.seq, .int .i64 0, .int .i64 0, .slice none 0 0, .int .i64 0, .bool false, .bool false]) rfl).setb 3 rfl 7 (.int .i64 a.tail) (cs' := #[.int .i64 a.id, .int .i64 a.gn, .int .i64 a.gs, .slice A1 a.mems.length c1, .int .i64 a.lost, .int .i64 a.built, .int .i64 a.seq, .int .i64 a.tail, .int .i64 0, .slice none 0 0, .int .i64 0, .bool false, .bool false]) rfl).setb 3 rfl 8 (.int .i64 a.gen) (cs' := #[.int .i64 a.id, .int .i64 a.gn, .int .i64 a.gs, .slice A1 a.mems.length c1, .int .i64 a.lost, .int .i64 a.built, .int .i64 a.seq, .int .i64 a.tail, .int .i64 a.gen, .slice none 0 0, .int .i64 0, .bool false, .bool false]) rfl).setb 3 rfl 9 (.slice A2 a.dirty.length c2) (cs' := #[.int .i64 a.id, .int .i64 a.gn, .int .i64 a.gs, .slice A1 a.mems.length c1, .int .i64 a.lost, .int .i64 a.built, .int .i64 a.seq, .int .i64 a.tail, .int .i64 a.gen, .slice A2 a.dirty.length c2, .int .i64 0, .bool false, .bool false]) rfl).setb 3 rfl 10 (.int .i64 a.fuse) (cs' := #[.int .i64 a.id, .int .i64 a.gn, .int .i64 a.gs, .slice A1 a.mems.length c1, .int .i64 a.lost, .int .i64 a.built, .int .i64 a.seq, .int .i64 a.tail, .int .i64 a.gen, .slice A2 a.dirty.length c2, .int .i64 a.fuse, .bool false, .bool false]) rfl).setb 3 rfl 11 (.bool a.down) (cs' := #[.int .i64 a.id, .int .i64 a.gn, .int .i64 a.gs, .slice A1 a.mems.length c1, .int .i64 a.lost, .int .i64 a.built, .int .i64 a.seq, .int .i64 a.tail, .int .i64 a.gen, .slice A2 a.dirty.length c2, .int .i64 a.fuse, .bool a.down, .bool false]) rfl).setb 3 rfl 12 (.bool a.broken) (cs' := #[.int .i64 a.id, .int .i64 a.gn, .int .i64 a.gs, .slice A1 a.mems.length c1, .int .i64 a.lost, .int .i64 a.built, .int .i64 a.seq, .int .i64 a.tail, .int .i64 a.gen, .slice A2 a.dirty.length c2, .int .i64 a.fuse, .bool a.down, .bool a.broken]) rfl)
    simp only [qqN] at HE
    refine bodyPost_ret (results_cell_row rfl _ _ (w.heap.size + 1) 34 #[.int .i64 a.id, .int .i64 a.gn, .int .i64 a.gs, .slice A1 a.mems.length c1, .int .i64 a.lost, .int .i64 a.built, .int .i64 a.seq, .int .i64 a.tail, .int .i64 a.gen, .slice A2 a.dirty.length c2, .int .i64 a.fuse, .bool a.down, .bool a.broken] (0, 0) _ rfl (HE.get 3 rfl) Tryz.underlying34 rfl (by kernel_rfl)) rfl ?_
    have hB := HE.sel [1, 2] (by decide) (by simp)
    simp only [qqN] at hB
    rw [HR.out]
    exact ⟨_, _, rfl, (Sep.toArr (a := a) hB).toNew 0 rfl⟩
  ·have HDN := Aside0.mk (show a.down = true by simpa using hdn)
   clear hdn
   have HR := Aside0.mk (show checkR a = a by unfold checkR; rw [if_neg (by rw [HA.out, HDN.out]; simp)])
   go_enter Tryz.func26, Tryz.ntmps26
   go_upto_region 2 with (first
    | (go_at_call 29; refine (c_l6Copy (ArrR_below H.out HI.out.toBelow) HSA.out).mono ?_; rintro e w2 ⟨u2, F2, rfl, hn⟩; have hs2 := HI.out.new hn; obtain ⟨A1, c1, A2, c2, F1, F3, rfl, hs3⟩ := Sep.ofArr hs2; simp only [arrC] at *; have HS2 := Aside0.mk hs3; clear hs2 hs3 hn k0 k1 k2 k3 k4 k5 k6 k7 k8 k9 k10 k11 k12 l0 l1 l2 l3 l4 l5 l6 l7 l8 l9 l10 l11 l12)
    | fail)
   have hB := HS2.out.alloc (g := w2.heap.size) rfl #[.int .i64 a.id, .int .i64 a.gn, .int .i64 a.gs, .slice A1 a.mems.length c1, .int .i64 a.lost, .int .i64 a.built, .int .i64 a.seq, .int .i64 a.tail, .int .i64 a.gen, .slice A2 a.dirty.length c2, .int .i64 a.fuse, .bool a.down, .bool a.broken] 34
   generalize hgg : w2.heap.size = g3 at *
   generalize hww : w2.alloc (.cells #[.int .i64 a.id, .int .i64 a.gn, .int .i64 a.gs, .slice A1 a.mems.length c1, .int .i64 a.lost, .int .i64 a.built, .int .i64 a.seq, .int .i64 a.tail, .int .i64 a.gen, .slice A2 a.dirty.length c2, .int .i64 a.fuse, .bool a.down, .bool a.broken] 34 (0, 0)) = w3 at *
   have HS3 := Aside0.mk hB
   clear hB hgg hww HS2
   obtain ⟨l0, l1, l2, l3, l4, l5, l6, l7, l8, l9, l10, l11, l12⟩ := thirteen (HS3.out.get 0 rfl)
   obtain ⟨k0, k1, k2, k3, k4, k5, k6, k7, k8, k9, k10, k11, k12⟩ := thirteen (HS3.out.get 4 rfl)
   obtain ⟨z0, z1, z2, z3, z4, z5, z6, z7, z8, z9, z10, z11, z12⟩ := thirteen (HS3.out.get 3 rfl)
   have gz := blk_frozen (HS3.out.get 3 rfl)
   go_upto_region 4 with (first
    | (go_at_call 59; refine (c_specArrOk (ArrR_below H.out HS3.out.toBelow) HSA.out).mono ?_; rw [HA.out]; rintro e w4 ⟨rfl, hb⟩; have HS4 := Aside0.mk (HS3.out.below hb); clear hb gz k0 k1 k2 k3 k4 k5 k6 k7 k8 k9 k10 k11 k12 l0 l1 l2 l3 l4 l5 l6 l7 l8 l9 l10 l11 l12 z0 z1 z2 z3 z4 z5 z6 z7 z8 z9 z10 z11 z12; obtain ⟨l0, l1, l2, l3, l4, l5, l6, l7, l8, l9, l10, l11, l12⟩ := thirteen (HS4.out.get 0 rfl); obtain ⟨k0, k1, k2, k3, k4, k5, k6, k7, k8, k9, k10, k11, k12⟩ := thirteen (HS4.out.get 4 rfl); obtain ⟨z0, z1, z2, z3, z4, z5, z6, z7, z8, z9, z10, z11, z12⟩ := thirteen (HS4.out.get 3 rfl); have gz := blk_frozen (HS4.out.get 3 rfl); first | (have hnd := (congrArg (!·) HDN.out : (!a.down) = _); simp only [Bool.not_false, Bool.not_true] at hnd) | skip)
    | fail)
   first | clear H | skip
   first | clear HI | skip
   first | clear HSA | skip
   first | clear hnd | skip
   first | clear HS3 | skip
   first | clear HA | skip
   first | clear HDN | skip
   first | clear HMK | skip
   first | clear k0 k1 k2 k3 k4 k5 k6 k7 k8 k9 k10 k11 k12 | skip
   go_wp2
   have HE := (((((((((((((HS4.out.setb 3 rfl 0 (.int .i64 a.id) (cs' := #[.int .i64 a.id, .int .i64 0, .int .i64 0, .slice none 0 0, .int .i64 0, .int .i64 0, .int .i64 0, .int .i64 0, .int .i64 0, .slice none 0 0, .int .i64 0, .bool false, .bool false]) rfl).setb 3 rfl 1 (.int .i64 a.gn) (cs' := #[.int .i64 a.id, .int .i64 a.gn, .int .i64 0, .slice none 0 0, .int .i64 0, .int .i64 0, .int .i64 0, .int .i64 0, .int .i64 0, .slice none 0 0, .int .i64 0, .bool false, .bool false]) rfl).setb 3 rfl 2 (.int .i64 a.gs) (cs' := #[.int .i64 a.id, .int .i64 a.gn, .int .i64 a.gs, .slice none 0 0, .int .i64 0, .int .i64 0, .int .i64 0, .int .i64 0, .int .i64 0, .slice none 0 0, .int .i64 0, .bool false, .bool false]) rfl).setb 3 rfl 3 (.slice A1 a.mems.length c1) (cs' := #[.int .i64 a.id, .int .i64 a.gn, .int .i64 a.gs, .slice A1 a.mems.length c1, .int .i64 0, .int .i64 0, .int .i64 0, .int .i64 0, .int .i64 0, .slice none 0 0, .int .i64 0, .bool false, .bool false]) rfl).setb 3 rfl 4 (.int .i64 a.lost) (cs' := #[.int .i64 a.id, .int .i64 a.gn, .int .i64 a.gs, .slice A1 a.mems.length c1, .int .i64 a.lost, .int .i64 0, .int .i64 0, .int .i64 0, .int .i64 0, .slice none 0 0, .int .i64 0, .bool false, .bool false]) rfl).setb 3 rfl 5 (.int .i64 a.built) (cs' := #[.int .i64 a.id, .int .i64 a.gn, .int .i64 a.gs, .slice A1 a.mems.length c1, .int .i64 a.lost, .int .i64 a.built, .int .i64 0, .int .i64 0, .int .i64 0, .slice none 0 0, .int .i64 0, .bool false, .bool false]) rfl).setb 3 rfl 6 (.int .i64 a.seq) (cs' := #[.int .i64 a.id, .int .i64 a.gn, .int .i64 a.gs, .slice A1 a.mems.length c1, .int .i64 a.lost, .int .i64 a.built, .int .i64 a.seq, .int .i64 0, .int .i64 0, .slice none 0 0, .int .i64 0, .bool false, .bool false]) rfl).setb 3 rfl 7 (.int .i64 a.tail) (cs' := #[.int .i64 a.id, .int .i64 a.gn, .int .i64 a.gs, .slice A1 a.mems.length c1, .int .i64 a.lost, .int .i64 a.built, .int .i64 a.seq, .int .i64 a.tail, .int .i64 0, .slice none 0 0, .int .i64 0, .bool false, .bool false]) rfl).setb 3 rfl 8 (.int .i64 a.gen) (cs' := #[.int .i64 a.id, .int .i64 a.gn, .int .i64 a.gs, .slice A1 a.mems.length c1, .int .i64 a.lost, .int .i64 a.built, .int .i64 a.seq, .int .i64 a.tail, .int .i64 a.gen, .slice none 0 0, .int .i64 0, .bool false, .bool false]) rfl).setb 3 rfl 9 (.slice A2 a.dirty.length c2) (cs' := #[.int .i64 a.id, .int .i64 a.gn, .int .i64 a.gs, .slice A1 a.mems.length c1, .int .i64 a.lost, .int .i64 a.built, .int .i64 a.seq, .int .i64 a.tail, .int .i64 a.gen, .slice A2 a.dirty.length c2, .int .i64 0, .bool false, .bool false]) rfl).setb 3 rfl 10 (.int .i64 a.fuse) (cs' := #[.int .i64 a.id, .int .i64 a.gn, .int .i64 a.gs, .slice A1 a.mems.length c1, .int .i64 a.lost, .int .i64 a.built, .int .i64 a.seq, .int .i64 a.tail, .int .i64 a.gen, .slice A2 a.dirty.length c2, .int .i64 a.fuse, .bool false, .bool false]) rfl).setb 3 rfl 11 (.bool a.down) (cs' := #[.int .i64 a.id, .int .i64 a.gn, .int .i64 a.gs, .slice A1 a.mems.length c1, .int .i64 a.lost, .int .i64 a.built, .int .i64 a.seq, .int .i64 a.tail, .int .i64 a.gen, .slice A2 a.dirty.length c2, .int .i64 a.fuse, .bool a.down, .bool false]) rfl).setb 3 rfl 12 (.bool a.broken) (cs' := #[.int .i64 a.id, .int .i64 a.gn, .int .i64 a.gs, .slice A1 a.mems.length c1, .int .i64 a.lost, .int .i64 a.built, .int .i64 a.seq, .int .i64 a.tail, .int .i64 a.gen, .slice A2 a.dirty.length c2, .int .i64 a.fuse, .bool a.down, .bool a.broken]) rfl)
   simp only [qqN] at HE
   refine bodyPost_ret (results_cell_row rfl _ _ (w.heap.size + 1) 34 #[.int .i64 a.id, .int .i64 a.gn, .int .i64 a.gs, .slice A1 a.mems.length c1, .int .i64 a.lost, .int .i64 a.built, .int .i64 a.seq, .int .i64 a.tail, .int .i64 a.gen, .slice A2 a.dirty.length c2, .int .i64 a.fuse, .bool a.down, .bool a.broken] (0, 0) _ rfl (HE.get 3 rfl) Tryz.underlying34 rfl (by kernel_rfl)) rfl ?_
   have hB := HE.sel [1, 2] (by decide) (by simp)
   simp only [qqN] at hB
   rw [HR.out]
   exact ⟨_, _, rfl, (Sep.toArr (a := a) hB).toNew 0 rfl⟩
 ·simp only [Bool.not_eq_true] at hA
  have HA := Aside0.mk hA
  clear hA
  have HR := Aside0.mk (show checkR a = a by unfold checkR; rw [if_neg (by rw [HA.out]; simp)])
  go_enter Tryz.func26, Tryz.ntmps26
  go_upto_region 2 with (first
   | (go_at_call 29; refine (c_l6Copy (ArrR_below H.out HI.out.toBelow) HSA.out).mono ?_; rintro e w2 ⟨u2, F2, rfl, hn⟩; have hs2 := HI.out.new hn; obtain ⟨A1, c1, A2, c2, F1, F3, rfl, hs3⟩ := Sep.ofArr hs2; simp only [arrC] at *; have HS2 := Aside0.mk hs3; clear hs2 hs3 hn k0 k1 k2 k3 k4 k5 k6 k7 k8 k9 k10 k11 k12 l0 l1 l2 l3 l4 l5 l6 l7 l8 l9 l10 l11 l12)
   | fail)
  have hB := HS2.out.alloc (g := w2.heap.size) rfl #[.int .i64 a.id, .int .i64 a.gn, .int .i64 a.gs, .slice A1 a.mems.length c1, .int .i64 a.lost, .int .i64 a.built, .int .i64 a.seq, .int .i64 a.tail, .int .i64 a.gen, .slice A2 a.dirty.length c2, .int .i64 a.fuse, .bool a.down, .bool a.broken] 34
  generalize hgg : w2.heap.size = g3 at *
  generalize hww : w2.alloc (.cells #[.int .i64 a.id, .int .i64 a.gn, .int .i64 a.gs, .slice A1 a.mems.length c1, .int .i64 a.lost, .int .i64 a.built, .int .i64 a.seq, .int .i64 a.tail, .int .i64 a.gen, .slice A2 a.dirty.length c2, .int .i64 a.fuse, .bool a.down, .bool a.broken] 34 (0, 0)) = w3 at *
  have HS3 := Aside0.mk hB
  clear hB hgg hww HS2
  obtain ⟨l0, l1, l2, l3, l4, l5, l6, l7, l8, l9, l10, l11, l12⟩ := thirteen (HS3.out.get 0 rfl)
  obtain ⟨k0, k1, k2, k3, k4, k5, k6, k7, k8, k9, k10, k11, k12⟩ := thirteen (HS3.out.get 4 rfl)
  obtain ⟨z0, z1, z2, z3, z4, z5, z6, z7, z8, z9, z10, z11, z12⟩ := thirteen (HS3.out.get 3 rfl)
  have gz := blk_frozen (HS3.out.get 3 rfl)
  go_upto_region 4 with (first
   | (go_at_call 59; refine (c_specArrOk (ArrR_below H.out HS3.out.toBelow) HSA.out).mono ?_; rw [HA.out]; rintro e w4 ⟨rfl, hb⟩; have HS4 := Aside0.mk (HS3.out.below hb); clear hb gz k0 k1 k2 k3 k4 k5 k6 k7 k8 k9 k10 k11 k12 l0 l1 l2 l3 l4 l5 l6 l7 l8 l9 l10 l11 l12 z0 z1 z2 z3 z4 z5 z6 z7 z8 z9 z10 z11 z12; obtain ⟨l0, l1, l2, l3, l4, l5, l6, l7, l8, l9, l10, l11, l12⟩ := thirteen (HS4.out.get 0 rfl); obtain ⟨k0, k1, k2, k3, k4, k5, k6, k7, k8, k9, k10, k11, k12⟩ := thirteen (HS4.out.get 4 rfl); obtain ⟨z0, z1, z2, z3, z4, z5, z6, z7, z8, z9, z10, z11, z12⟩ := thirteen (HS4.out.get 3 rfl); have gz := blk_frozen (HS4.out.get 3 rfl); first | (have hnd := (congrArg (!·) HDN.out : (!a.down) = _); simp only [Bool.not_false, Bool.not_true] at hnd) | skip)
   | fail)
  first | clear H | skip
  first | clear HI | skip
  first | clear HSA | skip
  first | clear hnd | skip
  first | clear HS3 | skip
  first | clear HA | skip
  first | clear HDN | skip
  first | clear HMK | skip
  first | clear k0 k1 k2 k3 k4 k5 k6 k7 k8 k9 k10 k11 k12 | skip
  go_wp2
  have HE := (((((((((((((HS4.out.setb 3 rfl 0 (.int .i64 a.id) (cs' := #[.int .i64 a.id, .int .i64 0, .int .i64 0, .slice none 0 0, .int .i64 0, .int .i64 0, .int .i64 0, .int .i64 0, .int .i64 0, .slice none 0 0, .int .i64 0, .bool false, .bool false]) rfl).setb 3 rfl 1 (.int .i64 a.gn) (cs' := #[.int .i64 a.id, .int .i64 a.gn, .int .i64 0, .slice none 0 0, .int .i64 0, .int .i64 0, .int .i64 0, .int .i64 0, .int .i64 0, .slice none 0 0, .int .i64 0, .bool false, .bool false]) rfl).setb 3 rfl 2 (.int .i64 a.gs) (cs' := #[.int .i64 a.id, .int .i64 a.gn, .int .i64 a.gs, .slice none 0 0, .int .i64 0, .int .i64 0, .int .i64 0, .int .i64 0, .int .i64 0, .slice none 0 0, .int .i64 0, .bool false, .bool false]) rfl).setb 3 rfl 3 (.slice A1 a.mems.length c1) (cs' := #[.int .i64 a.id, .int .i64 a.gn, .int .i64 a.gs, .slice A1 a.mems.length c1, .int .i64 0, .int .i64 0, .int .i64 0, .int .i64 0, .int .i64 0, .slice none 0 0, .int .i64 0, .bool false, .bool false]) rfl).setb 3 rfl 4 (.int .i64 a.lost) (cs' := #[.int .i64 a.id, .int .i64 a.gn, .int .i64 a.gs, .slice A1 a.mems.length c1, .int .i64 a.lost, .int .i64 0, .int .i64 0, .int .i64 0, .int .i64 0, .slice none 0 0, .int .i64 0, .bool false, .bool false]) rfl).setb 3 rfl 5 (.int .i64 a.built) (cs' := #[.int .i64 a.id, .int .i64 a.gn, .int .i64 a.gs, .slice A1 a.mems.length c1, .int .i64 a.lost, .int .i64 a.built, .int .i64 0, .int .i64 0, .int .i64 0, .slice none 0 0, .int .i64 0, .bool false, .bool false]) rfl).setb 3 rfl 6 (.int .i64 a.seq) (cs' := #[.int .i64 a.id, .int .i64 a.gn, .int .i64 a.gs, .slice A1 a.mems.length c1, .int .i64 a.lost, .int .i64 a.built, .int .i64 a.seq, .int .i64 0, .int .i64 0, .slice none 0 0, .int .i64 0, .bool false, .bool false]) rfl).setb 3 rfl 7 (.int .i64 a.tail) (cs' := #[.int .i64 a.id, .int .i64 a.gn, .int .i64 a.gs, .slice A1 a.mems.length c1, .int .i64 a.lost, .int .i64 a.built, .int .i64 a.seq, .int .i64 a.tail, .int .i64 0, .slice none 0 0, .int .i64 0, .bool false, .bool false]) rfl).setb 3 rfl 8 (.int .i64 a.gen) (cs' := #[.int .i64 a.id, .int .i64 a.gn, .int .i64 a.gs, .slice A1 a.mems.length c1, .int .i64 a.lost, .int .i64 a.built, .int .i64 a.seq, .int .i64 a.tail, .int .i64 a.gen, .slice none 0 0, .int .i64 0, .bool false, .bool false]) rfl).setb 3 rfl 9 (.slice A2 a.dirty.length c2) (cs' := #[.int .i64 a.id, .int .i64 a.gn, .int .i64 a.gs, .slice A1 a.mems.length c1, .int .i64 a.lost, .int .i64 a.built, .int .i64 a.seq, .int .i64 a.tail, .int .i64 a.gen, .slice A2 a.dirty.length c2, .int .i64 0, .bool false, .bool false]) rfl).setb 3 rfl 10 (.int .i64 a.fuse) (cs' := #[.int .i64 a.id, .int .i64 a.gn, .int .i64 a.gs, .slice A1 a.mems.length c1, .int .i64 a.lost, .int .i64 a.built, .int .i64 a.seq, .int .i64 a.tail, .int .i64 a.gen, .slice A2 a.dirty.length c2, .int .i64 a.fuse, .bool false, .bool false]) rfl).setb 3 rfl 11 (.bool a.down) (cs' := #[.int .i64 a.id, .int .i64 a.gn, .int .i64 a.gs, .slice A1 a.mems.length c1, .int .i64 a.lost, .int .i64 a.built, .int .i64 a.seq, .int .i64 a.tail, .int .i64 a.gen, .slice A2 a.dirty.length c2, .int .i64 a.fuse, .bool a.down, .bool false]) rfl).setb 3 rfl 12 (.bool a.broken) (cs' := #[.int .i64 a.id, .int .i64 a.gn, .int .i64 a.gs, .slice A1 a.mems.length c1, .int .i64 a.lost, .int .i64 a.built, .int .i64 a.seq, .int .i64 a.tail, .int .i64 a.gen, .slice A2 a.dirty.length c2, .int .i64 a.fuse, .bool a.down, .bool a.broken]) rfl)
  simp only [qqN] at HE
  refine bodyPost_ret (results_cell_row rfl _ _ (w.heap.size + 1) 34 #[.int .i64 a.id, .int .i64 a.gn, .int .i64 a.gs, .slice A1 a.mems.length c1, .int .i64 a.lost, .int .i64 a.built, .int .i64 a.seq, .int .i64 a.tail, .int .i64 a.gen, .slice A2 a.dirty.length c2, .int .i64 a.fuse, .bool a.down, .bool a.broken] (0, 0) _ rfl (HE.get 3 rfl) Tryz.underlying34 rfl (by kernel_rfl)) rfl ?_
  have hB := HE.sel [1, 2] (by decide) (by simp)
  simp only [qqN] at hB
  rw [HR.out]
  exact ⟨_, _, rfl, (Sep.toArr (a := a) hB).toNew 0 rfl⟩
end AQCheck
end Go.Proofs.YtggmifnblcjdfaaGreat
