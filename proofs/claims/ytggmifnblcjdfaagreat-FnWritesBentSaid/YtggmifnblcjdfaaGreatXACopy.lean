/- Own text: ACopy. -/
import Derived.Test.YtggmifnblcjdfaaGreatXB3
import Derived.Test.YtggmifnblcjdfaaGreatXB4
import Derived.Test.YtggmifnblcjdfaaGreatXB1
import Derived.Test.YtggmifnblcjdfaaGreatXAOkD
set_option linter.unusedVariables false
set_option linter.unusedSimpArgs false
namespace Go.Proofs.YtggmifnblcjdfaaGreat
namespace ACopy
open Go.RowKit RJ RP Go.Proofs.YtggmifnblcjdfaaGreatW.PrintWords Fp FpStep MInt MKinds MRead MMake MPut MHeld MOk MSuper Go.Proofs.YtggmifnblcjdfaaGreat.Sep SepStep AKinds AMake AEnt ALaw AArr AOk AOkD MCopy MCopyS
set_option maxHeartbeats 2000000 in
set_option maxRecDepth 100000 in
theorem c_copyMems {w : World} {v : Value} {xs : List MemV} (h : RK kMem w v xs) (hl : xs.length ≤ 16777216) (hsm : ∀ m ∈ xs, Small m) :
  Calls Tryz.prog 76 #[v] w fun e w' => ∃ u F, e = .returned u ∧ New w w' (rw_ oMem 89 F u xs) := by
 have lx := RK_len h
 obtain ⟨A0, c0, rfl, hr⟩ := id h
 have H := Aside0.mk h
 have HSM := Aside0.mk hsm
 clear h hr hsm
 have HI := Aside0.mk ((Sep.start w []).lit (g := w.heap.size) rfl oMem 89)
 go_enter Tryz.func76, Tryz.ntmps76
 go_wp2
 go_loopw [3, 9] (fun v3 v9 wr => ∃ (i : Nat) (A : Option Addr) (c : Nat) (F : List Nat), i ≤ xs.length ∧ v9 = .int .i64 i ∧ v3 = .slice A i c ∧ Aside0 (Sep w [] wr [rw_ oMem 89 F (.slice A i c) (xs.take i)])) (fun _ v9 _ => xs.length - (intOf v9).toNat)
 case atStart => exact ⟨0, _, _, _, by omega, rfl, rfl, HI⟩
 case round =>
  clear HI
  obtain ⟨i, A, c, F, hi, rfl, rfl, HR⟩ := hrel
  by_cases hlt : i < xs.length
  ·obtain ⟨x, hxi⟩ : ∃ x, xs[i]? = some x := ⟨_, List.getElem?_eq_getElem hlt⟩
   obtain ⟨ad, cap, ha, hc⟩ := RK_mems H.out (by omega)
   obtain rfl := (Value.slice.inj ha).1
   obtain ⟨B1, d1, B2, d2, B3, d3, x0, x1, x2, x3, hM⟩ := hc i x hxi
   replace x0 := HR.out.old x0
   replace x1 := HR.out.old x1
   replace x2 := HR.out.old x2
   replace x3 := HR.out.old x3
   have RM := Aside0.mk hM
   have hsx := HSM.out x (List.mem_of_getElem? hxi)
   have HSX := Aside0.mk hsx
   have HT := Aside0.mk (take_snoc hxi)
   have hB := HR.out.alloc (g := wr.heap.size) rfl #[.slice B1 x.secs.length d1, .slice B2 x.cache.length d2, .bool x.failed, .slice B3 x.bad.length d3] 89
   have HB := Aside0.mk hB
   have i0 : (0 : Int) ≤ (i : Int) := by omega
   have il : (i : Int) < (xs.length : Int) := by omega
   clear ha hc hM hsx hxi hB
   go_wp2_with (first
    | (go_at_call 125; refine (c_copyMem (MemR_below RM.out HB.out.toBelow) HSX.out).mono ?_; rintro e w2 ⟨u2, F2, rfl, hn⟩; have hs2 := HB.out.new hn; obtain ⟨E1, f1, E2, f2, E3, f3, rfl⟩ := me_form hs2; have hq := hs2.sel [2, 0] (by decide) (by simp); simp only [qqN] at hq; have HS2 := Aside0.mk hq; clear hs2 hq hn)
    | (at_builtin; (refine app_one (d := oMem) (y := x) HS2.out rfl _ _ 31 (.agg #[.slice none 0 0, .slice none 0 0, .bool false, .slice none 0 0]) 80 (by rfl) Tryz.underlying31 (by kernel_rfl) rfl (by decide) (by decide) [.slice E1 x.secs.length f1, .slice E2 x.cache.length f2, .bool x.failed, .slice E3 x.bad.length f3] (oMem_M.2 (HS2.out.get 1 rfl)) (by rfl) (by rfl) rfl (n := i) (by simp; omega) (by omega) ?_); intro A3 c3 w3 F3 hs3; have HS3 := Aside0.mk hs3; clear hs3)
    | fail)
   go_roundw
   case rel => exact ⟨i + 1, A3, c3, F3, by omega, by go_num, rfl, ⟨by rw [HT.out]; exact HS3.out⟩⟩
   case measure => simp [intOf]; omega
  ·obtain rfl : i = xs.length := by omega
   go_wp2
   go_ret
   have hz := HR.out
   rw [List.take_length] at hz
   exact ⟨_, _, rfl, hz.toNew 0 rfl⟩
set_option maxHeartbeats 8000000 in
set_option maxRecDepth 100000 in
theorem c_copyArr {w : World} {v : Value} {a : ArrV} (h : ArrR w v a) (hsm : SmallA a) :
  Calls Tryz.prog 35 #[v] w fun e w' => ∃ u F, e = .returned u ∧ New w w' (ar F u a) := by
 have H := Aside0.mk h
 have HSA := Aside0.mk hsm
 obtain ⟨vm, vd, rfl, r1, r2⟩ := h
 obtain ⟨A1, c1, rfl, _⟩ := id r1
 obtain ⟨A2, c2, rfl, _⟩ := id r2
 have lm := RK_len r1
 have ld := RK_len r2
 have R1 := Aside0.mk r1
 have R2 := Aside0.mk r2
 have hml := hsm.1
 have hdl := hsm.2.2.1
 clear r1 r2 hsm
 have HI := Aside0.mk ((((Sep.start w []).alloc (g := w.heap.size) rfl (arrC a (.slice A1 a.mems.length c1) (.slice A2 a.dirty.length c2)) 34).alloc (g := w.heap.size + 1) (by simp) arrZ 34).lit (g := w.heap.size + 1 + 1) (by simp) oWr 91)
 obtain ⟨id, gn, gs, mems, lost, built, seq, tail, gen, dirty, fuse, down, broken⟩ := a
 simp only [arrC, arrZ] at *
 obtain ⟨k0, k1, k2, k3, k4, k5, k6, k7, k8, k9, k10, k11, k12⟩ := thirteen (HI.out.get 2 rfl)
 go_enter Tryz.func35, Tryz.ntmps35
 go_wp2
 go_loopw [3, 10] (fun v3 v10 wr => ∃ (i : Nat) (A : Option Addr) (c : Nat) (F : List Nat), i ≤ dirty.length ∧ v10 = .int .i64 i ∧ v3 = .slice A i c ∧ Aside0 (Sep w [] wr [rw_ oWr 91 F (.slice A i c) (dirty.take i), bx (w.heap.size + 1) 34 #[.int .i64 0, .int .i64 0, .int .i64 0, .slice none 0 0, .int .i64 0, .int .i64 0, .int .i64 0, .int .i64 0, .int .i64 0, .slice none 0 0, .int .i64 0, .bool false, .bool false], bx w.heap.size 34 #[.int .i64 id, .int .i64 gn, .int .i64 gs, .slice A1 mems.length c1, .int .i64 lost, .int .i64 built, .int .i64 seq, .int .i64 tail, .int .i64 gen, .slice A2 dirty.length c2, .int .i64 fuse, .bool down, .bool broken]])) (fun _ v10 _ => dirty.length - (intOf v10).toNat)
 case atStart => exact ⟨0, _, _, _, by omega, rfl, rfl, HI⟩
 case round =>
  clear HI k0 k1 k2 k3 k4 k5 k6 k7 k8 k9 k10 k11 k12
  obtain ⟨i, A, c, F, hi, rfl, rfl, HR⟩ := hrel
  by_cases hlt : i < dirty.length
  ·obtain ⟨⟨xn, x⟩, hxi⟩ : ∃ x, dirty[i]? = some x := ⟨_, List.getElem?_eq_getElem hlt⟩
   obtain ⟨ad, cap, ha, hc⟩ := RK_wrs R2.out (by omega)
   obtain rfl := (Value.slice.inj ha).1
   obtain ⟨u, cn, cu, ru⟩ := hc i _ hxi
   obtain ⟨A6, c6, rfl, _⟩ := _root_.id ru
   simp only at cn cu ru
   replace cn := HR.out.old cn
   replace cu := HR.out.old cu
   have RU := Aside0.mk ru
   have hxl := HSA.out.2.2.2 _ (List.mem_of_getElem? hxi)
   simp only at hxl
   have HT := Aside0.mk (take_snoc hxi)
   have i0 : (0 : Int) ≤ (i : Int) := by omega
   have il : (i : Int) < (dirty.length : Int) := by omega
   clear ha hc ru hxi
   go_upto_region 5 with fail
   have hB := HR.out.alloc (g := wr.heap.size) rfl #[.int .i64 xn, .slice A6 x.length c6] 91
   generalize hgg : wr.heap.size = ge at *
   generalize hww : wr.alloc (.cells #[.int .i64 xn, .slice A6 x.length c6] 91 (0, 0)) = wm at *
   have Hm := Aside0.mk hB
   clear hB hgg hww cn cu HR
   obtain ⟨m0, m1⟩ := two_cells (Hm.out.get 0 rfl)
   refine wp_region_seqp (fun w' => w'.cell? ⟨ge, 0, none⟩ = some (.int .i64 xn) ∧ w'.cell? ⟨ge, 1, none⟩ = some (.slice A6 x.length c6)) [9] [(0, 2), (1, 2), (3, 2), (2, 1), (4, 1), (5, 0), (6, 2), (7, 0), (8, 0), (9, 0)] (by kernel_rfl) (by kernel_rfl) ?_
   have hS : (fun w' : World => w'.cell? ⟨ge, 0, none⟩ = some (.int .i64 xn) ∧ w'.cell? ⟨ge, 1, none⟩ = some (.slice A6 x.length c6)) wm.drew := ⟨m0, m1⟩
   repeat ((first | (refine seqp_pure rfl (fun _ _ _ h => h) (by rfl) (fun w_ => by go_simp; first | done | with_reducible rfl) ?_) | (refine seqp_take hS rfl (fun _ _ _ h => h) (by rfl) (fun w_ hSw => by (try dsimp only at hSw); go_simp; first | done | with_reducible rfl) ?_) | (refine seqp_skip2 rfl (fun _ _ _ h => h) (by rfl) ?_) | (refine seqp_skip1 hS rfl (fun _ _ _ h => h) (by rfl) ?_) | (refine seqp_skip0 rfl (by rfl) ?_)); (try simp only [Act.put, qqP]))
   refine seqp_step rfl (fun K hK => ?_)
   go_simp
   go_at_call 75; refine (c_copyInts (RK_below RU.out Hm.out.drew.toBelow) hxl).mono ?_; rintro e w3 ⟨u3, K_, rfl, hu3, hF3, hb3⟩
   have hs3 := Hm.out.drew.new (new_row hu3 hF3 hb3)
   obtain ⟨A5, c5, rfl, hz5⟩ := O_RK (show oInt.O 3 w3 K_ u3 x from hu3)
   clear hz5 hu3 hF3 hb3
   have HS3 := Aside0.mk hs3
   clear hs3 m0 m1 hS
   obtain ⟨m0, m1⟩ := two_cells (HS3.out.get 1 rfl)
   have hS : (fun w' : World => w'.cell? ⟨ge, 0, none⟩ = some (.int .i64 xn) ∧ w'.cell? ⟨ge, 1, none⟩ = some (.slice A6 x.length c6)) w3 := ⟨m0, m1⟩
   refine hK.out _ _ ⟨fun _ _ => hS, ?_⟩; clear hK K; (try simp only [Act.put, qqP])
   repeat ((first | (refine seqp_pure rfl (fun _ _ _ h => h) (by rfl) (fun w_ => by go_simp; first | done | with_reducible rfl) ?_) | (refine seqp_take hS rfl (fun _ _ _ h => h) (by rfl) (fun w_ hSw => by (try dsimp only at hSw); go_simp; first | done | with_reducible rfl) ?_) | (refine seqp_skip2 rfl (fun _ _ _ h => h) (by rfl) ?_) | (refine seqp_skip1 hS rfl (fun _ _ _ h => h) (by rfl) ?_) | (refine seqp_skip0 rfl (by rfl) ?_)); (try simp only [Act.put, qqP]))
   refine seqp_step rfl (fun K hK => ?_)
   go_simp
   refine hK.out _ _ ⟨fun _ _ => ⟨cell_alloc m0 _, cell_alloc m1 _⟩, ?_⟩; clear hK K; (try simp only [Act.put, qqP])
   refine seqp_step rfl (fun K hK => ?_)
   refine step_app (d := oWr) (y := (xn, x)) (HS3.out.selT 3 [2, 0, 1] (by decide) (by simp <;> omega)) 0 rfl _ _ 32 (.agg #[.int .i64 0, .slice none 0 0]) 32 (by rfl) Tryz.underlying32 (by kernel_rfl) rfl (by decide) (by decide) [.int .i64 xn, .slice A5 x.length c5] ⟨[], K_, [.int .i64 xn], [.slice A5 x.length c5], rfl, rfl, ⟨rfl, rfl⟩, _, rfl, HS3.out.get 0 rfl⟩ (by rfl) (by rfl) (by rfl) (n := i) (by simp; omega) (by omega) ?_
   intro g7 cap7 w7 F7 hs8
   simp only [qqN, qqT] at hs8
   have HS8 := Aside0.mk hs8
   clear hs8 m0 m1 hS
   obtain ⟨m0, m1⟩ := two_cells (HS8.out.get 1 rfl)
   have hS : (fun w' : World => w'.cell? ⟨ge, 0, none⟩ = some (.int .i64 xn) ∧ w'.cell? ⟨ge, 1, none⟩ = some (.slice A6 x.length c6)) w7 := ⟨m0, m1⟩
   refine hK.out _ _ ⟨fun _ _ => hS, ?_⟩; clear hK K; (try simp only [Act.put, qqP])
   repeat ((first | (refine seqp_pure rfl (fun _ _ _ h => h) (by rfl) (fun w_ => by go_simp; first | done | with_reducible rfl) ?_) | (refine seqp_take hS rfl (fun _ _ _ h => h) (by rfl) (fun w_ hSw => by (try dsimp only at hSw); go_simp; first | done | with_reducible rfl) ?_) | (refine seqp_skip2 rfl (fun _ _ _ h => h) (by rfl) ?_) | (refine seqp_skip1 hS rfl (fun _ _ _ h => h) (by rfl) ?_) | (refine seqp_skip0 rfl (by rfl) ?_)); (try simp only [Act.put, qqP]))
   refine seqp_step rfl (fun K hK => ?_)
   go_simp
   refine hK.out _ _ ⟨(fun h => (by cases h)), ?_⟩; clear hK K; (try simp only [Act.put, qqP])
   clear hS m0 m1
   refine seqp_done ?_
   go_wp2
   go_roundw
   case rel => exact ⟨i + 1, _, cap7, F7, by omega, by go_num, rfl, ⟨by rw [HT.out]; have hq := HS8.out.selT 2 [0] (by decide) (by simp <;> omega); simp only [qqN, qqT] at hq; exact hq⟩⟩
   case measure => simp [intOf]; omega
  ·obtain rfl : i = dirty.length := by omega
   have hz := HR.out
   rw [List.take_length] at hz
   have HR2 := Aside0.mk hz
   clear hz HR
   obtain ⟨k0, k1, k2, k3, k4, k5, k6, k7, k8, k9, k10, k11, k12⟩ := thirteen (HR2.out.get 2 rfl)
   go_upto_region 8 with (first
    | (go_at_call 76; refine (c_copyMems (HR2.out.rk R1.out) hml HSA.out.2.1).mono ?_; rintro e w3 ⟨u3, F3, rfl, hn⟩; have hs3 := HR2.out.new hn; obtain ⟨A3, c3, rfl, hz3⟩ := O_RK (show oMem.O 89 w3 F3 u3 mems from hs3.get 0 rfl); have HS3 := Aside0.mk hs3; clear hs3 hn hz3 k0 k1 k2 k3 k4 k5 k6 k7 k8 k9 k10 k11 k12; obtain ⟨k0, k1, k2, k3, k4, k5, k6, k7, k8, k9, k10, k11, k12⟩ := thirteen (HS3.out.get 3 rfl); have gz := blk_frozen (HS3.out.get 3 rfl))
    | fail)
   have hE := (HS3.out.setb 3 rfl 3 (.slice A3 mems.length c3) (cs' := #[.int .i64 id, .int .i64 gn, .int .i64 gs, .slice A3 mems.length c3, .int .i64 lost, .int .i64 built, .int .i64 seq, .int .i64 tail, .int .i64 gen, .slice A2 dirty.length c2, .int .i64 fuse, .bool down, .bool broken]) rfl).setb 3 rfl 9 (.slice A dirty.length c) (cs' := #[.int .i64 id, .int .i64 gn, .int .i64 gs, .slice A3 mems.length c3, .int .i64 lost, .int .i64 built, .int .i64 seq, .int .i64 tail, .int .i64 gen, .slice A dirty.length c, .int .i64 fuse, .bool down, .bool broken]) rfl
   simp only [qqN] at hE
   clear gz k0 k1 k2 k3 k4 k5 k6 k7 k8 k9 k10 k11 k12
   generalize (w3.setCell ⟨w.heap.size, 3, none⟩ (.slice A3 mems.length c3)).setCell ⟨w.heap.size, 9, none⟩ (.slice A dirty.length c) = w4 at *
   have HS4 := Aside0.mk hE
   clear hE
   obtain ⟨k0, k1, k2, k3, k4, k5, k6, k7, k8, k9, k10, k11, k12⟩ := thirteen (HS4.out.get 3 rfl)
   obtain ⟨l0, l1, l2, l3, l4, l5, l6, l7, l8, l9, l10, l11, l12⟩ := thirteen (HS4.out.get 2 rfl)
   have gz := blk_frozen (HS4.out.get 2 rfl)
   go_wp2
   have HE := (((((((((((((HS4.out.setb 2 rfl 0 (.int .i64 id) (cs' := #[.int .i64 id, .int .i64 0, .int .i64 0, .slice none 0 0, .int .i64 0, .int .i64 0, .int .i64 0, .int .i64 0, .int .i64 0, .slice none 0 0, .int .i64 0, .bool false, .bool false]) rfl).setb 2 rfl 1 (.int .i64 gn) (cs' := #[.int .i64 id, .int .i64 gn, .int .i64 0, .slice none 0 0, .int .i64 0, .int .i64 0, .int .i64 0, .int .i64 0, .int .i64 0, .slice none 0 0, .int .i64 0, .bool false, .bool false]) rfl).setb 2 rfl 2 (.int .i64 gs) (cs' := #[.int .i64 id, .int .i64 gn, .int .i64 gs, .slice none 0 0, .int .i64 0, .int .i64 0, .int .i64 0, .int .i64 0, .int .i64 0, .slice none 0 0, .int .i64 0, .bool false, .bool false]) rfl).setb 2 rfl 3 (.slice A3 mems.length c3) (cs' := #[.int .i64 id, .int .i64 gn, .int .i64 gs, .slice A3 mems.length c3, .int .i64 0, .int .i64 0, .int .i64 0, .int .i64 0, .int .i64 0, .slice none 0 0, .int .i64 0, .bool false, .bool false]) rfl).setb 2 rfl 4 (.int .i64 lost) (cs' := #[.int .i64 id, .int .i64 gn, .int .i64 gs, .slice A3 mems.length c3, .int .i64 lost, .int .i64 0, .int .i64 0, .int .i64 0, .int .i64 0, .slice none 0 0, .int .i64 0, .bool false, .bool false]) rfl).setb 2 rfl 5 (.int .i64 built) (cs' := #[.int .i64 id, .int .i64 gn, .int .i64 gs, .slice A3 mems.length c3, .int .i64 lost, .int .i64 built, .int .i64 0, .int .i64 0, .int .i64 0, .slice none 0 0, .int .i64 0, .bool false, .bool false]) rfl).setb 2 rfl 6 (.int .i64 seq) (cs' := #[.int .i64 id, .int .i64 gn, .int .i64 gs, .slice A3 mems.length c3, .int .i64 lost, .int .i64 built, .int .i64 seq, .int .i64 0, .int .i64 0, .slice none 0 0, .int .i64 0, .bool false, .bool false]) rfl).setb 2 rfl 7 (.int .i64 tail) (cs' := #[.int .i64 id, .int .i64 gn, .int .i64 gs, .slice A3 mems.length c3, .int .i64 lost, .int .i64 built, .int .i64 seq, .int .i64 tail, .int .i64 0, .slice none 0 0, .int .i64 0, .bool false, .bool false]) rfl).setb 2 rfl 8 (.int .i64 gen) (cs' := #[.int .i64 id, .int .i64 gn, .int .i64 gs, .slice A3 mems.length c3, .int .i64 lost, .int .i64 built, .int .i64 seq, .int .i64 tail, .int .i64 gen, .slice none 0 0, .int .i64 0, .bool false, .bool false]) rfl).setb 2 rfl 9 (.slice A dirty.length c) (cs' := #[.int .i64 id, .int .i64 gn, .int .i64 gs, .slice A3 mems.length c3, .int .i64 lost, .int .i64 built, .int .i64 seq, .int .i64 tail, .int .i64 gen, .slice A dirty.length c, .int .i64 0, .bool false, .bool false]) rfl).setb 2 rfl 10 (.int .i64 fuse) (cs' := #[.int .i64 id, .int .i64 gn, .int .i64 gs, .slice A3 mems.length c3, .int .i64 lost, .int .i64 built, .int .i64 seq, .int .i64 tail, .int .i64 gen, .slice A dirty.length c, .int .i64 fuse, .bool false, .bool false]) rfl).setb 2 rfl 11 (.bool down) (cs' := #[.int .i64 id, .int .i64 gn, .int .i64 gs, .slice A3 mems.length c3, .int .i64 lost, .int .i64 built, .int .i64 seq, .int .i64 tail, .int .i64 gen, .slice A dirty.length c, .int .i64 fuse, .bool down, .bool false]) rfl).setb 2 rfl 12 (.bool broken) (cs' := #[.int .i64 id, .int .i64 gn, .int .i64 gs, .slice A3 mems.length c3, .int .i64 lost, .int .i64 built, .int .i64 seq, .int .i64 tail, .int .i64 gen, .slice A dirty.length c, .int .i64 fuse, .bool down, .bool broken]) rfl)
   simp only [qqN] at HE
   refine bodyPost_ret (results_cell_row rfl _ _ (w.heap.size + 1) 34 #[.int .i64 id, .int .i64 gn, .int .i64 gs, .slice A3 mems.length c3, .int .i64 lost, .int .i64 built, .int .i64 seq, .int .i64 tail, .int .i64 gen, .slice A dirty.length c, .int .i64 fuse, .bool down, .bool broken] (0, 0) _ rfl (HE.get 2 rfl) Tryz.underlying34 rfl (by kernel_rfl)) rfl ?_
   have hB := HE.sel [0, 1] (by decide) (by simp)
   simp only [qqN] at hB
   exact ⟨_, _, rfl, (Sep.toArr (a := (⟨id, gn, gs, mems, lost, built, seq, tail, gen, dirty, fuse, down, broken⟩ : ArrV)) hB).toNew 0 rfl⟩
set_option maxHeartbeats 8000000 in
set_option maxRecDepth 100000 in
theorem c_l6Copy {w : World} {v : Value} {a : ArrV} (h : ArrR w v a) (hsm : SmallA a) :
  Calls Tryz.prog 29 #[v] w fun e w' => ∃ u F, e = .returned u ∧ New w w' (ar F u a) := by
 have H := Aside0.mk h
 have HSA := Aside0.mk hsm
 obtain ⟨vm, vd, rfl, r1, r2⟩ := h
 obtain ⟨A1, c1, rfl, _⟩ := id r1
 obtain ⟨A2, c2, rfl, _⟩ := id r2
 have lm := RK_len r1
 have ld := RK_len r2
 have R1 := Aside0.mk r1
 have R2 := Aside0.mk r2
 have hml := hsm.1
 have hdl := hsm.2.2.1
 clear r1 r2 hsm
 obtain ⟨id, gn, gs, mems, lost, built, seq, tail, gen, dirty, fuse, down, broken⟩ := a
 simp only [arrC, arrZ] at *
 have HI := Aside0.mk (((((Sep.start w []).alloc (g := w.heap.size) rfl #[.int .i64 id, .int .i64 gn, .int .i64 gs, .slice A1 mems.length c1, .int .i64 lost, .int .i64 built, .int .i64 seq, .int .i64 tail, .int .i64 gen, .slice A2 dirty.length c2, .int .i64 fuse, .bool down, .bool broken] 34).alloc (g := w.heap.size + 1) (by simp) #[.int .i64 0, .int .i64 0, .int .i64 0, .slice none 0 0, .int .i64 0, .int .i64 0, .int .i64 0, .int .i64 0, .int .i64 0, .slice none 0 0, .int .i64 0, .bool false, .bool false] 34).alloc (g := w.heap.size + 1 + 1) (by simp) #[.int .i64 id, .int .i64 gn, .int .i64 gs, .slice (some ⟨w.heap.size + 1 + 1 + 1, 0, none⟩) 0 0, .int .i64 lost, .int .i64 built, .int .i64 seq, .int .i64 tail, .int .i64 gen, .slice A2 dirty.length c2, .int .i64 fuse, .bool down, .bool broken] 34).lit (g := w.heap.size + 1 + 1 + 1) (by simp) oMem 89)
 obtain ⟨k0, k1, k2, k3, k4, k5, k6, k7, k8, k9, k10, k11, k12⟩ := thirteen (HI.out.get 3 rfl)
 obtain ⟨l0, l1, l2, l3, l4, l5, l6, l7, l8, l9, l10, l11, l12⟩ := thirteen (HI.out.get 1 rfl)
 go_enter Tryz.func29, Tryz.ntmps29
 go_wp2
 go_loopw [4] (fun v4 wr => ∃ (i : Nat) (A : Option Addr) (c : Nat) (F : List Nat), i ≤ mems.length ∧ v4 = .int .i64 i ∧ Aside0 (Sep w [] wr [rw_ oMem 89 F (.slice A i c) (mems.take i), bx (w.heap.size + 1 + 1) 34 #[.int .i64 id, .int .i64 gn, .int .i64 gs, .slice A i c, .int .i64 lost, .int .i64 built, .int .i64 seq, .int .i64 tail, .int .i64 gen, .slice A2 dirty.length c2, .int .i64 fuse, .bool down, .bool broken], bx (w.heap.size + 1) 34 #[.int .i64 0, .int .i64 0, .int .i64 0, .slice none 0 0, .int .i64 0, .int .i64 0, .int .i64 0, .int .i64 0, .int .i64 0, .slice none 0 0, .int .i64 0, .bool false, .bool false], bx w.heap.size 34 #[.int .i64 id, .int .i64 gn, .int .i64 gs, .slice A1 mems.length c1, .int .i64 lost, .int .i64 built, .int .i64 seq, .int .i64 tail, .int .i64 gen, .slice A2 dirty.length c2, .int .i64 fuse, .bool down, .bool broken]])) (fun v4 _ => mems.length - (intOf v4).toNat)
 case atStart => exact ⟨0, _, _, _, by omega, rfl, HI⟩
 case round =>
  clear HI k0 k1 k2 k3 k4 k5 k6 k7 k8 k9 k10 k11 k12 l0 l1 l2 l3 l4 l5 l6 l7 l8 l9 l10 l11 l12
  obtain ⟨i, A, c, F, hi, rfl, HR⟩ := hrel
  obtain ⟨k0, k1, k2, k3, k4, k5, k6, k7, k8, k9, k10, k11, k12⟩ := thirteen (HR.out.get 3 rfl)
  obtain ⟨l0, l1, l2, l3, l4, l5, l6, l7, l8, l9, l10, l11, l12⟩ := thirteen (HR.out.get 1 rfl)
  by_cases hlt : i < mems.length
  ·obtain ⟨x, hxi⟩ : ∃ x, mems[i]? = some x := ⟨_, List.getElem?_eq_getElem hlt⟩
   obtain ⟨ad, cap, ha, hc⟩ := RK_mems R1.out (by omega)
   obtain rfl := (Value.slice.inj ha).1
   obtain ⟨B1, d1, B2, d2, B3, d3, x0, x1, x2, x3, hM⟩ := hc i x hxi
   have X := Aside0.mk (And.intro x0 (And.intro x1 (And.intro x2 x3)))
   clear x0 x1 x2 x3
   have RM := Aside0.mk hM
   have hsx := HSA.out.2.1 x (List.mem_of_getElem? hxi)
   have HSX := Aside0.mk hsx
   have HT := Aside0.mk (take_snoc hxi)
   have i0 : (0 : Int) ≤ (i : Int) := by omega
   have il : (i : Int) < (mems.length : Int) := by omega
   clear ha hc hM hsx hxi
   go_upto_region 6 with fail
   have HRd := Aside0.mk HR.out.drew
   clear k0 k1 k2 k3 k4 k5 k6 k7 k8 k9 k10 k11 k12 l0 l1 l2 l3 l4 l5 l6 l7 l8 l9 l10 l11 l12
   refine wp_region_seqp (fun w' => w'.cell? ⟨w.heap.size + 1 + 1, 3, none⟩ = some (.slice A i c) ∧ w'.cell? ⟨w.heap.size, 3, none⟩ = some (.slice (some ad) mems.length c1) ∧ w'.cell? (ad.add (i * 4)) = some (.slice B1 x.secs.length d1) ∧ w'.cell? ⟨(ad.add (i * 4)).block, (ad.add (i * 4)).off + 1, none⟩ = some (.slice B2 x.cache.length d2) ∧ w'.cell? ⟨(ad.add (i * 4)).block, (ad.add (i * 4)).off + 2, none⟩ = some (.bool x.failed) ∧ w'.cell? ⟨(ad.add (i * 4)).block, (ad.add (i * 4)).off + 3, none⟩ = some (.slice B3 x.bad.length d3)) [11] [(0, 2), (2, 2), (4, 2), (1, 1), (3, 1), (5, 2), (6, 1), (7, 0), (8, 0), (9, 0), (10, 2), (11, 0)] (by kernel_rfl) (by kernel_rfl) ?_
   obtain ⟨k0, k1, k2, k3, k4, k5, k6, k7, k8, k9, k10, k11, k12⟩ := thirteen (HRd.out.get 3 rfl)
   obtain ⟨l0, l1, l2, l3, l4, l5, l6, l7, l8, l9, l10, l11, l12⟩ := thirteen (HRd.out.get 1 rfl)
   have hS : (fun w' : World => w'.cell? ⟨w.heap.size + 1 + 1, 3, none⟩ = some (.slice A i c) ∧ w'.cell? ⟨w.heap.size, 3, none⟩ = some (.slice (some ad) mems.length c1) ∧ w'.cell? (ad.add (i * 4)) = some (.slice B1 x.secs.length d1) ∧ w'.cell? ⟨(ad.add (i * 4)).block, (ad.add (i * 4)).off + 1, none⟩ = some (.slice B2 x.cache.length d2) ∧ w'.cell? ⟨(ad.add (i * 4)).block, (ad.add (i * 4)).off + 2, none⟩ = some (.bool x.failed) ∧ w'.cell? ⟨(ad.add (i * 4)).block, (ad.add (i * 4)).off + 3, none⟩ = some (.slice B3 x.bad.length d3)) wr.drew := ⟨l3, k3, HRd.out.old X.out.1, HRd.out.old X.out.2.1, HRd.out.old X.out.2.2.1, HRd.out.old X.out.2.2.2⟩
   repeat ((first | (refine seqp_pure rfl (fun _ _ _ h => h) (by rfl) (fun w_ => by go_simp; first | done | with_reducible rfl) ?_) | (refine seqp_take hS rfl (fun _ _ _ h => h) (by rfl) (fun w_ hSw => by (try dsimp only at hSw); go_simp; first | done | with_reducible rfl) ?_) | (refine seqp_skip2 rfl (fun _ _ _ h => h) (by rfl) ?_) | (refine seqp_skip1 hS rfl (fun _ _ _ h => h) (by rfl) ?_) | (refine seqp_skip0 rfl (by rfl) ?_)); (try simp only [Act.put, qqP]))
   refine seqp_step rfl (fun K hK => ?_)
   go_simp
   go_at_call 68; refine (c_l2Copy (MemR_below RM.out HRd.out.toBelow) HSX.out).mono ?_; rintro e w3 ⟨u3, F3, rfl, hn⟩
   have hs3 := HRd.out.new hn
   obtain ⟨E1, f1, E2, f2, E3, f3, rfl⟩ := me_form hs3
   have HS3 := Aside0.mk hs3
   clear hs3 hn hS k0 k1 k2 k3 k4 k5 k6 k7 k8 k9 k10 k11 k12 l0 l1 l2 l3 l4 l5 l6 l7 l8 l9 l10 l11 l12
   obtain ⟨k0, k1, k2, k3, k4, k5, k6, k7, k8, k9, k10, k11, k12⟩ := thirteen (HS3.out.get 4 rfl)
   obtain ⟨l0, l1, l2, l3, l4, l5, l6, l7, l8, l9, l10, l11, l12⟩ := thirteen (HS3.out.get 2 rfl)
   have hS : (fun w' : World => w'.cell? ⟨w.heap.size + 1 + 1, 3, none⟩ = some (.slice A i c) ∧ w'.cell? ⟨w.heap.size, 3, none⟩ = some (.slice (some ad) mems.length c1) ∧ w'.cell? (ad.add (i * 4)) = some (.slice B1 x.secs.length d1) ∧ w'.cell? ⟨(ad.add (i * 4)).block, (ad.add (i * 4)).off + 1, none⟩ = some (.slice B2 x.cache.length d2) ∧ w'.cell? ⟨(ad.add (i * 4)).block, (ad.add (i * 4)).off + 2, none⟩ = some (.bool x.failed) ∧ w'.cell? ⟨(ad.add (i * 4)).block, (ad.add (i * 4)).off + 3, none⟩ = some (.slice B3 x.bad.length d3)) w3 := ⟨l3, k3, HS3.out.old X.out.1, HS3.out.old X.out.2.1, HS3.out.old X.out.2.2.1, HS3.out.old X.out.2.2.2⟩
   refine hK.out _ _ ⟨fun _ _ => hS, ?_⟩; clear hK K; (try simp only [Act.put, qqP])
   repeat ((first | (refine seqp_pure rfl (fun _ _ _ h => h) (by rfl) (fun w_ => by go_simp; first | done | with_reducible rfl) ?_) | (refine seqp_take hS rfl (fun _ _ _ h => h) (by rfl) (fun w_ hSw => by (try dsimp only at hSw); go_simp; first | done | with_reducible rfl) ?_) | (refine seqp_skip2 rfl (fun _ _ _ h => h) (by rfl) ?_) | (refine seqp_skip1 hS rfl (fun _ _ _ h => h) (by rfl) ?_) | (refine seqp_skip0 rfl (by rfl) ?_)); (try simp only [Act.put, qqP]))
   refine seqp_step rfl (fun K hK => ?_)
   go_simp
   refine hK.out _ _ ⟨fun _ _ => ⟨cell_alloc hS.1 _, cell_alloc hS.2.1 _, cell_alloc hS.2.2.1 _, cell_alloc hS.2.2.2.1 _, cell_alloc hS.2.2.2.2.1 _, cell_alloc hS.2.2.2.2.2 _⟩, ?_⟩; clear hK K; (try simp only [Act.put, qqP])
   refine seqp_step rfl (fun K hK => ?_)
   refine step_app (d := oMem) (y := x) (HS3.out.selT 2 [1, 0] (by decide) (by simp <;> omega)) 0 rfl _ _ 31 (.agg #[.slice none 0 0, .slice none 0 0, .bool false, .slice none 0 0]) 80 (by rfl) Tryz.underlying31 (by kernel_rfl) rfl (by decide) (by decide) [.slice E1 x.secs.length f1, .slice E2 x.cache.length f2, .bool x.failed, .slice E3 x.bad.length f3] (oMem_M.2 (HS3.out.get 0 rfl)) (by rfl) (by rfl) (by rfl) (n := i) (by simp; omega) (by omega) ?_
   intro g7 cap7 w7 F7 hs8
   simp only [qqN, qqT] at hs8
   have HS8 := Aside0.mk hs8
   clear hs8 hS k0 k1 k2 k3 k4 k5 k6 k7 k8 k9 k10 k11 k12 l0 l1 l2 l3 l4 l5 l6 l7 l8 l9 l10 l11 l12
   obtain ⟨k0, k1, k2, k3, k4, k5, k6, k7, k8, k9, k10, k11, k12⟩ := thirteen (HS8.out.get 3 rfl)
   obtain ⟨l0, l1, l2, l3, l4, l5, l6, l7, l8, l9, l10, l11, l12⟩ := thirteen (HS8.out.get 1 rfl)
   have hS : (fun w' : World => w'.cell? ⟨w.heap.size + 1 + 1, 3, none⟩ = some (.slice A i c) ∧ w'.cell? ⟨w.heap.size, 3, none⟩ = some (.slice (some ad) mems.length c1) ∧ w'.cell? (ad.add (i * 4)) = some (.slice B1 x.secs.length d1) ∧ w'.cell? ⟨(ad.add (i * 4)).block, (ad.add (i * 4)).off + 1, none⟩ = some (.slice B2 x.cache.length d2) ∧ w'.cell? ⟨(ad.add (i * 4)).block, (ad.add (i * 4)).off + 2, none⟩ = some (.bool x.failed) ∧ w'.cell? ⟨(ad.add (i * 4)).block, (ad.add (i * 4)).off + 3, none⟩ = some (.slice B3 x.bad.length d3)) w7 := ⟨l3, k3, HS8.out.old X.out.1, HS8.out.old X.out.2.1, HS8.out.old X.out.2.2.1, HS8.out.old X.out.2.2.2⟩
   have gz := blk_frozen (HS8.out.get 1 rfl)
   refine hK.out _ _ ⟨fun _ _ => hS, ?_⟩; clear hK K; (try simp only [Act.put, qqP])
   repeat ((first | (refine seqp_pure rfl (fun _ _ _ h => h) (by rfl) (fun w_ => by go_simp; first | done | with_reducible rfl) ?_) | (refine seqp_take hS rfl (fun _ _ _ h => h) (by rfl) (fun w_ hSw => by (try dsimp only at hSw); go_simp; first | done | with_reducible rfl) ?_) | (refine seqp_skip2 rfl (fun _ _ _ h => h) (by rfl) ?_) | (refine seqp_skip1 hS rfl (fun _ _ _ h => h) (by rfl) ?_) | (refine seqp_skip0 rfl (by rfl) ?_)); (try simp only [Act.put, qqP]))
   refine seqp_step rfl (fun K hK => ?_)
   go_simp
   refine hK.out _ _ ⟨(fun h => (by cases h)), ?_⟩; clear hK K; (try simp only [Act.put, qqP])
   clear hS gz k0 k1 k2 k3 k4 k5 k6 k7 k8 k9 k10 k11 k12 l0 l1 l2 l3 l4 l5 l6 l7 l8 l9 l10 l11 l12
   refine seqp_done ?_
   go_wp2
   go_roundw
   case rel => exact ⟨i + 1, _, cap7, F7, by omega, by go_num, ⟨by rw [HT.out]; exact HS8.out.setb 1 rfl 3 (.slice (some ⟨g7, 0, none⟩) (i + 1) cap7) rfl⟩⟩
   case measure => simp [intOf]; omega
  ·obtain rfl : i = mems.length := by omega
   go_upto_region 7 with fail
   have hz := HR.out
   rw [List.take_length] at hz
   have gz := blk_frozen (hz.get 1 rfl)
   have h0 := hz.lit (g := wr.heap.size) rfl oWr 91
   have hI := h0.setb 2 rfl 9 (.slice (some ⟨wr.heap.size, 0, none⟩) 0 0) (cs' := #[.int .i64 id, .int .i64 gn, .int .i64 gs, .slice A mems.length c, .int .i64 lost, .int .i64 built, .int .i64 seq, .int .i64 tail, .int .i64 gen, .slice (some ⟨wr.heap.size, 0, none⟩) 0 0, .int .i64 fuse, .bool down, .bool broken]) rfl
   simp only [qqN] at hI
   have hq := hI.sel [0, 2, 1, 3, 4] (by decide) (by simp)
   simp only [qqN] at hq
   have HI := Aside0.mk hq
   clear k0 k1 k2 k3 k4 k5 k6 k7 k8 k9 k10 k11 k12 l0 l1 l2 l3 l4 l5 l6 l7 l8 l9 l10 l11 l12
   obtain ⟨k0, k1, k2, k3, k4, k5, k6, k7, k8, k9, k10, k11, k12⟩ := thirteen (h0.get 4 rfl)
   obtain ⟨l0, l1, l2, l3, l4, l5, l6, l7, l8, l9, l10, l11, l12⟩ := thirteen (h0.get 2 rfl)
   have gz2 := blk_frozen (h0.get 2 rfl)
   clear hz h0 hI hq HR
   go_wp2
   go_loopw [5] (fun v5 wr => ∃ (i : Nat) (A' : Option Addr) (c' : Nat) (F' : List Nat), i ≤ dirty.length ∧ v5 = .int .i64 i ∧ Aside0 (Sep w [] wr [rw_ oWr 91 F' (.slice A' i c') (dirty.take i), bx (w.heap.size + 1 + 1) 34 #[.int .i64 id, .int .i64 gn, .int .i64 gs, .slice A mems.length c, .int .i64 lost, .int .i64 built, .int .i64 seq, .int .i64 tail, .int .i64 gen, .slice A' i c', .int .i64 fuse, .bool down, .bool broken], rw_ oMem 89 F (.slice A mems.length c) mems, bx (w.heap.size + 1) 34 #[.int .i64 0, .int .i64 0, .int .i64 0, .slice none 0 0, .int .i64 0, .int .i64 0, .int .i64 0, .int .i64 0, .int .i64 0, .slice none 0 0, .int .i64 0, .bool false, .bool false], bx w.heap.size 34 #[.int .i64 id, .int .i64 gn, .int .i64 gs, .slice A1 mems.length c1, .int .i64 lost, .int .i64 built, .int .i64 seq, .int .i64 tail, .int .i64 gen, .slice A2 dirty.length c2, .int .i64 fuse, .bool down, .bool broken]])) (fun v5 _ => dirty.length - (intOf v5).toNat)
   case atStart => exact ⟨0, _, _, _, by omega, rfl, HI⟩
   case round =>
    clear HI gz gz2 k0 k1 k2 k3 k4 k5 k6 k7 k8 k9 k10 k11 k12 l0 l1 l2 l3 l4 l5 l6 l7 l8 l9 l10 l11 l12
    obtain ⟨i, A', c', F', hi, rfl, HR⟩ := hrel
    obtain ⟨k0, k1, k2, k3, k4, k5, k6, k7, k8, k9, k10, k11, k12⟩ := thirteen (HR.out.get 4 rfl)
    obtain ⟨l0, l1, l2, l3, l4, l5, l6, l7, l8, l9, l10, l11, l12⟩ := thirteen (HR.out.get 1 rfl)
    by_cases hlt : i < dirty.length
    ·obtain ⟨⟨xn, x⟩, hxi⟩ : ∃ x, dirty[i]? = some x := ⟨_, List.getElem?_eq_getElem hlt⟩
     obtain ⟨ad, cap, ha, hc⟩ := RK_wrs R2.out (by omega)
     obtain rfl := (Value.slice.inj ha).1
     obtain ⟨u, cn, cu, ru⟩ := hc i _ hxi
     obtain ⟨A6, c6, rfl, _⟩ := _root_.id ru
     simp only at cn cu ru
     have X := Aside0.mk (And.intro cn cu)
     have RU := Aside0.mk ru
     have hxl := HSA.out.2.2.2 _ (List.mem_of_getElem? hxi)
     simp only at hxl
     have HT := Aside0.mk (take_snoc hxi)
     have i0 : (0 : Int) ≤ (i : Int) := by omega
     have il : (i : Int) < (dirty.length : Int) := by omega
     clear ha hc ru hxi cn cu
     go_upto_region 11 with fail
     have HRd := Aside0.mk HR.out.drew
     clear k0 k1 k2 k3 k4 k5 k6 k7 k8 k9 k10 k11 k12 l0 l1 l2 l3 l4 l5 l6 l7 l8 l9 l10 l11 l12
     refine wp_region_seqp (fun w' => w'.cell? ⟨w.heap.size + 1 + 1, 9, none⟩ = some (.slice A' i c') ∧ w'.cell? ⟨w.heap.size, 9, none⟩ = some (.slice (some ad) dirty.length c2) ∧ w'.cell? (ad.add (i * 2)) = some (.int .i64 xn) ∧ w'.cell? ⟨(ad.add (i * 2)).block, (ad.add (i * 2)).off + 1, none⟩ = some (.slice A6 x.length c6)) [20] [(0, 2), (2, 2), (4, 2), (9, 2), (11, 2), (1, 1), (3, 1), (5, 2), (6, 2), (7, 1), (10, 1), (12, 2), (13, 2), (14, 1), (8, 0), (15, 0), (16, 2), (17, 0), (18, 0), (19, 2), (20, 0)] (by kernel_rfl) (by kernel_rfl) ?_
     obtain ⟨k0, k1, k2, k3, k4, k5, k6, k7, k8, k9, k10, k11, k12⟩ := thirteen (HRd.out.get 4 rfl)
     obtain ⟨l0, l1, l2, l3, l4, l5, l6, l7, l8, l9, l10, l11, l12⟩ := thirteen (HRd.out.get 1 rfl)
     have hS : (fun w' : World => w'.cell? ⟨w.heap.size + 1 + 1, 9, none⟩ = some (.slice A' i c') ∧ w'.cell? ⟨w.heap.size, 9, none⟩ = some (.slice (some ad) dirty.length c2) ∧ w'.cell? (ad.add (i * 2)) = some (.int .i64 xn) ∧ w'.cell? ⟨(ad.add (i * 2)).block, (ad.add (i * 2)).off + 1, none⟩ = some (.slice A6 x.length c6)) wr.drew := ⟨l9, k9, HRd.out.old X.out.1, HRd.out.old X.out.2⟩
     repeat ((first | (refine seqp_pure rfl (fun _ _ _ h => h) (by rfl) (fun w_ => by go_simp; first | done | with_reducible rfl) ?_) | (refine seqp_take hS rfl (fun _ _ _ h => h) (by rfl) (fun w_ hSw => by (try dsimp only at hSw); go_simp; first | done | with_reducible rfl) ?_) | (refine seqp_skip2 rfl (fun _ _ _ h => h) (by rfl) ?_) | (refine seqp_skip1 hS rfl (fun _ _ _ h => h) (by rfl) ?_) | (refine seqp_skip0 rfl (by rfl) ?_)); (try simp only [Act.put, qqP]))
     refine seqp_step rfl (fun K hK => ?_)
     go_simp
     refine hK.out _ _ ⟨fun _ _ => ⟨cell_alloc hS.1 _, cell_alloc hS.2.1 _, cell_alloc hS.2.2.1 _, cell_alloc hS.2.2.2 _⟩, ?_⟩; clear hK K; (try simp only [Act.put, qqP])
     repeat ((first | (refine seqp_pure rfl (fun _ _ _ h => h) (by rfl) (fun w_ => by go_simp; first | done | with_reducible rfl) ?_) | (refine seqp_take hS rfl (fun _ _ _ h => h) (by rfl) (fun w_ hSw => by (try dsimp only at hSw); go_simp; first | done | with_reducible rfl) ?_) | (refine seqp_skip2 rfl (fun _ _ _ h => h) (by rfl) ?_) | (refine seqp_skip1 hS rfl (fun _ _ _ h => h) (by rfl) ?_) | (refine seqp_skip0 rfl (by rfl) ?_)); (try simp only [Act.put, qqP]))
     refine seqp_step rfl (fun K hK => ?_)
     refine step_copy .i64 (HRd.out.lit (g := wr.heap.size) rfl oInt 3) (by rfl) _ _ 28 8 (by rfl) Tryz.underlying28 (by kernel_rfl) (by decide) _ x (by rfl) (by rfl) ((HRd.out.lit (g := wr.heap.size) rfl oInt 3).rk RU.out) (by omega) ?_
     intro A5 c5 w3 K_ h1
     have HS3 := Aside0.mk h1
     clear h1
     clear hS k0 k1 k2 k3 k4 k5 k6 k7 k8 k9 k10 k11 k12 l0 l1 l2 l3 l4 l5 l6 l7 l8 l9 l10 l11 l12
     obtain ⟨k0, k1, k2, k3, k4, k5, k6, k7, k8, k9, k10, k11, k12⟩ := thirteen (HS3.out.get 5 rfl)
     obtain ⟨l0, l1, l2, l3, l4, l5, l6, l7, l8, l9, l10, l11, l12⟩ := thirteen (HS3.out.get 2 rfl)
     have hS : (fun w' : World => w'.cell? ⟨w.heap.size + 1 + 1, 9, none⟩ = some (.slice A' i c') ∧ w'.cell? ⟨w.heap.size, 9, none⟩ = some (.slice (some ad) dirty.length c2) ∧ w'.cell? (ad.add (i * 2)) = some (.int .i64 xn) ∧ w'.cell? ⟨(ad.add (i * 2)).block, (ad.add (i * 2)).off + 1, none⟩ = some (.slice A6 x.length c6)) w3 := ⟨l9, k9, HS3.out.old X.out.1, HS3.out.old X.out.2⟩
     refine hK.out _ _ ⟨fun _ _ => hS, ?_⟩; clear hK K; (try simp only [Act.put, qqP])
     repeat ((first | (refine seqp_pure rfl (fun _ _ _ h => h) (by rfl) (fun w_ => by go_simp; first | done | with_reducible rfl) ?_) | (refine seqp_take hS rfl (fun _ _ _ h => h) (by rfl) (fun w_ hSw => by (try dsimp only at hSw); go_simp; first | done | with_reducible rfl) ?_) | (refine seqp_skip2 rfl (fun _ _ _ h => h) (by rfl) ?_) | (refine seqp_skip1 hS rfl (fun _ _ _ h => h) (by rfl) ?_) | (refine seqp_skip0 rfl (by rfl) ?_)); (try simp only [Act.put, qqP]))
     refine seqp_step rfl (fun K hK => ?_)
     go_simp
     refine hK.out _ _ ⟨fun _ _ => ⟨cell_alloc hS.1 _, cell_alloc hS.2.1 _, cell_alloc hS.2.2.1 _, cell_alloc hS.2.2.2 _⟩, ?_⟩; clear hK K; (try simp only [Act.put, qqP])
     repeat ((first | (refine seqp_pure rfl (fun _ _ _ h => h) (by rfl) (fun w_ => by go_simp; first | done | with_reducible rfl) ?_) | (refine seqp_take hS rfl (fun _ _ _ h => h) (by rfl) (fun w_ hSw => by (try dsimp only at hSw); go_simp; first | done | with_reducible rfl) ?_) | (refine seqp_skip2 rfl (fun _ _ _ h => h) (by rfl) ?_) | (refine seqp_skip1 hS rfl (fun _ _ _ h => h) (by rfl) ?_) | (refine seqp_skip0 rfl (by rfl) ?_)); (try simp only [Act.put, qqP]))
     refine seqp_step rfl (fun K hK => ?_)
     refine step_app (d := oWr) (y := (xn, x)) (HS3.out.selT 2 [1, 0] (by decide) (by simp <;> omega)) 0 rfl _ _ 32 (.agg #[.int .i64 0, .slice none 0 0]) 32 (by rfl) Tryz.underlying32 (by kernel_rfl) rfl (by decide) (by decide) [.int .i64 xn, .slice A5 x.length c5] ⟨[], K_, [.int .i64 xn], [.slice A5 x.length c5], rfl, rfl, ⟨rfl, rfl⟩, _, rfl, HS3.out.get 0 rfl⟩ (by rfl) (by rfl) (by rfl) (n := i) (by simp; omega) (by omega) ?_
     intro g7 cap7 w7 F7 hs8
     simp only [qqN, qqT] at hs8
     have HS8 := Aside0.mk hs8
     clear hs8
     clear hS k0 k1 k2 k3 k4 k5 k6 k7 k8 k9 k10 k11 k12 l0 l1 l2 l3 l4 l5 l6 l7 l8 l9 l10 l11 l12
     obtain ⟨k0, k1, k2, k3, k4, k5, k6, k7, k8, k9, k10, k11, k12⟩ := thirteen (HS8.out.get 4 rfl)
     obtain ⟨l0, l1, l2, l3, l4, l5, l6, l7, l8, l9, l10, l11, l12⟩ := thirteen (HS8.out.get 1 rfl)
     have hS : (fun w' : World => w'.cell? ⟨w.heap.size + 1 + 1, 9, none⟩ = some (.slice A' i c') ∧ w'.cell? ⟨w.heap.size, 9, none⟩ = some (.slice (some ad) dirty.length c2) ∧ w'.cell? (ad.add (i * 2)) = some (.int .i64 xn) ∧ w'.cell? ⟨(ad.add (i * 2)).block, (ad.add (i * 2)).off + 1, none⟩ = some (.slice A6 x.length c6)) w7 := ⟨l9, k9, HS8.out.old X.out.1, HS8.out.old X.out.2⟩
     have gz := blk_frozen (HS8.out.get 1 rfl)
     refine hK.out _ _ ⟨fun _ _ => hS, ?_⟩; clear hK K; (try simp only [Act.put, qqP])
     repeat ((first | (refine seqp_pure rfl (fun _ _ _ h => h) (by rfl) (fun w_ => by go_simp; first | done | with_reducible rfl) ?_) | (refine seqp_take hS rfl (fun _ _ _ h => h) (by rfl) (fun w_ hSw => by (try dsimp only at hSw); go_simp; first | done | with_reducible rfl) ?_) | (refine seqp_skip2 rfl (fun _ _ _ h => h) (by rfl) ?_) | (refine seqp_skip1 hS rfl (fun _ _ _ h => h) (by rfl) ?_) | (refine seqp_skip0 rfl (by rfl) ?_)); (try simp only [Act.put, qqP]))
     refine seqp_step rfl (fun K hK => ?_)
     go_simp
     refine hK.out _ _ ⟨(fun h => (by cases h)), ?_⟩; clear hK K; (try simp only [Act.put, qqP])
     clear hS k0 k1 k2 k3 k4 k5 k6 k7 k8 k9 k10 k11 k12 l0 l1 l2 l3 l4 l5 l6 l7 l8 l9 l10 l11 l12 gz
     refine seqp_done ?_
     go_wp2
     go_roundw
     case rel => exact ⟨i + 1, _, cap7, F7, by omega, by go_num, ⟨by rw [HT.out]; exact HS8.out.setb 1 rfl 9 (.slice (some ⟨g7, 0, none⟩) (i + 1) cap7) rfl⟩⟩
     case measure => simp [intOf]; omega
    ·obtain rfl : i = dirty.length := by omega
     have hz := HR.out
     rw [List.take_length] at hz
     have HS4 := Aside0.mk hz
     clear hz HR k0 k1 k2 k3 k4 k5 k6 k7 k8 k9 k10 k11 k12 l0 l1 l2 l3 l4 l5 l6 l7 l8 l9 l10 l11 l12
     obtain ⟨k0, k1, k2, k3, k4, k5, k6, k7, k8, k9, k10, k11, k12⟩ := thirteen (HS4.out.get 1 rfl)
     obtain ⟨l0, l1, l2, l3, l4, l5, l6, l7, l8, l9, l10, l11, l12⟩ := thirteen (HS4.out.get 3 rfl)
     obtain ⟨m0, m1, m2, m3, m4, m5, m6, m7, m8, m9, m10, m11, m12⟩ := thirteen (HS4.out.get 4 rfl)
     have gz := blk_frozen (HS4.out.get 3 rfl)
     go_wp2
     have HE := (((((((((((((HS4.out.setb 3 rfl 0 (.int .i64 id) (cs' := #[.int .i64 id, .int .i64 0, .int .i64 0, .slice none 0 0, .int .i64 0, .int .i64 0, .int .i64 0, .int .i64 0, .int .i64 0, .slice none 0 0, .int .i64 0, .bool false, .bool false]) rfl).setb 3 rfl 1 (.int .i64 gn) (cs' := #[.int .i64 id, .int .i64 gn, .int .i64 0, .slice none 0 0, .int .i64 0, .int .i64 0, .int .i64 0, .int .i64 0, .int .i64 0, .slice none 0 0, .int .i64 0, .bool false, .bool false]) rfl).setb 3 rfl 2 (.int .i64 gs) (cs' := #[.int .i64 id, .int .i64 gn, .int .i64 gs, .slice none 0 0, .int .i64 0, .int .i64 0, .int .i64 0, .int .i64 0, .int .i64 0, .slice none 0 0, .int .i64 0, .bool false, .bool false]) rfl).setb 3 rfl 3 (.slice A mems.length c) (cs' := #[.int .i64 id, .int .i64 gn, .int .i64 gs, .slice A mems.length c, .int .i64 0, .int .i64 0, .int .i64 0, .int .i64 0, .int .i64 0, .slice none 0 0, .int .i64 0, .bool false, .bool false]) rfl).setb 3 rfl 4 (.int .i64 lost) (cs' := #[.int .i64 id, .int .i64 gn, .int .i64 gs, .slice A mems.length c, .int .i64 lost, .int .i64 0, .int .i64 0, .int .i64 0, .int .i64 0, .slice none 0 0, .int .i64 0, .bool false, .bool false]) rfl).setb 3 rfl 5 (.int .i64 built) (cs' := #[.int .i64 id, .int .i64 gn, .int .i64 gs, .slice A mems.length c, .int .i64 lost, .int .i64 built, .int .i64 0, .int .i64 0, .int .i64 0, .slice none 0 0, .int .i64 0, .bool false, .bool false]) rfl).setb 3 rfl 6 (.int .i64 seq) (cs' := #[.int .i64 id, .int .i64 gn, .int .i64 gs, .slice A mems.length c, .int .i64 lost, .int .i64 built, .int .i64 seq, .int .i64 0, .int .i64 0, .slice none 0 0, .int .i64 0, .bool false, .bool false]) rfl).setb 3 rfl 7 (.int .i64 tail) (cs' := #[.int .i64 id, .int .i64 gn, .int .i64 gs, .slice A mems.length c, .int .i64 lost, .int .i64 built, .int .i64 seq, .int .i64 tail, .int .i64 0, .slice none 0 0, .int .i64 0, .bool false, .bool false]) rfl).setb 3 rfl 8 (.int .i64 gen) (cs' := #[.int .i64 id, .int .i64 gn, .int .i64 gs, .slice A mems.length c, .int .i64 lost, .int .i64 built, .int .i64 seq, .int .i64 tail, .int .i64 gen, .slice none 0 0, .int .i64 0, .bool false, .bool false]) rfl).setb 3 rfl 9 (.slice A' dirty.length c') (cs' := #[.int .i64 id, .int .i64 gn, .int .i64 gs, .slice A mems.length c, .int .i64 lost, .int .i64 built, .int .i64 seq, .int .i64 tail, .int .i64 gen, .slice A' dirty.length c', .int .i64 0, .bool false, .bool false]) rfl).setb 3 rfl 10 (.int .i64 fuse) (cs' := #[.int .i64 id, .int .i64 gn, .int .i64 gs, .slice A mems.length c, .int .i64 lost, .int .i64 built, .int .i64 seq, .int .i64 tail, .int .i64 gen, .slice A' dirty.length c', .int .i64 fuse, .bool false, .bool false]) rfl).setb 3 rfl 11 (.bool down) (cs' := #[.int .i64 id, .int .i64 gn, .int .i64 gs, .slice A mems.length c, .int .i64 lost, .int .i64 built, .int .i64 seq, .int .i64 tail, .int .i64 gen, .slice A' dirty.length c', .int .i64 fuse, .bool down, .bool false]) rfl).setb 3 rfl 12 (.bool broken) (cs' := #[.int .i64 id, .int .i64 gn, .int .i64 gs, .slice A mems.length c, .int .i64 lost, .int .i64 built, .int .i64 seq, .int .i64 tail, .int .i64 gen, .slice A' dirty.length c', .int .i64 fuse, .bool down, .bool broken]) rfl)
     simp only [qqN] at HE
     refine bodyPost_ret (results_cell_row rfl _ _ (w.heap.size + 1) 34 #[.int .i64 id, .int .i64 gn, .int .i64 gs, .slice A mems.length c, .int .i64 lost, .int .i64 built, .int .i64 seq, .int .i64 tail, .int .i64 gen, .slice A' dirty.length c', .int .i64 fuse, .bool down, .bool broken] (0, 0) _ rfl (HE.get 3 rfl) Tryz.underlying34 rfl (by kernel_rfl)) rfl ?_
     have hB := HE.sel [2, 0] (by decide) (by simp)
     simp only [qqN] at hB
     exact ⟨_, _, rfl, (Sep.toArr (a := (⟨id, gn, gs, mems, lost, built, seq, tail, gen, dirty, fuse, down, broken⟩ : ArrV)) hB).toNew 0 rfl⟩
end ACopy
end Go.Proofs.YtggmifnblcjdfaaGreat
