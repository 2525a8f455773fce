/- Own text: LawFnWritesBent. -/
import Derived.Test.YtggmifnblcjdfaaGreatXB12
import Derived.Test.YtggmifnblcjdfaaGreatXDSame
import Derived.Test.YtggmifnblcjdfaaGreatXASync
import Derived.Test.YtggmifnblcjdfaaGreatXAQMark
import Derived.Test.YtggmifnblcjdfaaGreatXAQCheck
set_option linter.unusedVariables false
set_option linter.unusedSimpArgs false
namespace Go.Proofs.YtggmifnblcjdfaaGreat
namespace LawFnWritesBent
open Go.RowKit RJ RP RPC Go.Proofs.YtggmifnblcjdfaaGreatW.PrintWords Fp FpStep MInt MKinds MRead MMake MPut MHeld MOk MVal MValB MSuper MDraw MDraw2 MDraw4 Go.Proofs.YtggmifnblcjdfaaGreat.Sep SepStep AKinds AArr AHole AOk AOkD AXor AStrV AQStripe DRes DInv DEnd DGeo DTurn DDraw DAny DSync DSame ASync AQMark AQCheck LawLib
theorem c_big {w : World} {B : Value} {bs : List Int} (hB : RK (Kd.int .u8) w B bs) : Calls Tryz.prog 15 #[B] w fun e w' => e = .returned (.bool (decide ((1048576 : Int) < bs.length))) ∧ ∃ n, w' = w.drewN n := by
 obtain ⟨A, c, rfl, _, _⟩ := hB
 go_enter Tryz.func15, Tryz.ntmps15
 go_wp2
 go_ret
 exact ⟨rfl, 0, rfl⟩
theorem row_R {w : World} {F1 F2 : List Nat} {A1 A2 : Option Addr} {c1 c2 : Nat} {es : List (Int × Value)} {a : ArrV} (h1 : oMem.O 89 w F1 (.slice A1 a.mems.length c1) a.mems) (h2 : oShl.O 91 w F2 (.slice A2 a.dirty.length c2) es) (h3 : Dat w es a.dirty) : ArrR w (.agg (arrC a (.slice A1 a.mems.length c1) (.slice A2 a.dirty.length c2))) a := ⟨_, _, rfl, oMem_RK h1, shl_RK h2 h3⟩
set_option maxHeartbeats 16000000 in
set_option maxRecDepth 100000 in
theorem law_FnWritesBent {w : World} {B : Value} {bs : List Int} (hB : RK (Kd.int .u8) w B bs) : Calls Tryz.prog 4 #[B] w fun e w' => e = .returned (.bool true) ∧ Below w.heap.size w w' := by
 have HC := Aside0.mk hB
 have lx := RK_len hB
 obtain ⟨BA, Bc, rfl, _, _⟩ := hB
 by_cases hl0 : (1048576 : Int) < (bs.length : Int)
 ·go_enter Tryz.func4, Tryz.ntmps4
  go_wp2_with (first | (go_at_call 15; refine (c_big HC.out).mono ?_; rw [decide_eq_true hl0]; rintro e w1 ⟨rfl, hb⟩; have HS1 := Aside0.mk ((Sep.start w []).dr hb); clear hb) | fail)
  go_ret
  exact ⟨rfl, HS1.out.toBelow⟩
 have hl : bs.length ≤ 16777216 := by omega
 go_enter Tryz.func4, Tryz.ntmps4
 go_upto_region 3 with (first | (go_at_call 15; refine (c_big HC.out).mono ?_; rw [decide_eq_false hl0]; rintro e w1 ⟨rfl, hb⟩; have HS1 := Aside0.mk ((Sep.start w []).dr hb); clear hb) | fail)
 clear hl0
 go_upto_region 4 with (first
  | (go_at_call 16; refine (c_DrawWriteStripe (HS1.out.rk HC.out) hl).mono ?_; rintro e w2 ⟨v, u, s, a, Fx, xs, rfl, ⟨hok, hxl⟩, ⟨A11, c11, A12, c12, F11, F12, F13, es1, rfl, hel, hq⟩⟩; simp only [arrC] at *; have hq2 := Sep.comp HS1.out hq; simp only [List.cons_append, List.nil_append, List.append_nil] at hq2; have HOK := Aside0.mk hok.1; have HXL := Aside0.mk (show xs.length ≤ 1048576 by omega); clear hok hxl hel hq; obtain ⟨XA, Xc, rfl, _⟩ := O_reads (show oInt.O 3 w2 Fx u xs from hq2.get 3 rfl); have HS2 := Aside0.mk hq2; clear hq2 HS1)
  | fail)
 have hq := HS2.out.alloc (g := w2.heap.size) rfl #[.int .i64 a.id, .int .i64 a.gn, .int .i64 a.gs, .slice A11 a.mems.length c11, .int .i64 a.lost, .int .i64 a.built, .int .i64 a.seq, .int .i64 a.tail, .int .i64 a.gen, .slice A12 a.dirty.length c12, .int .i64 a.fuse, .bool a.down, .bool a.broken] 34
 generalize w2.alloc (.cells #[.int .i64 a.id, .int .i64 a.gn, .int .i64 a.gs, .slice A11 a.mems.length c11, .int .i64 a.lost, .int .i64 a.built, .int .i64 a.seq, .int .i64 a.tail, .int .i64 a.gen, .slice A12 a.dirty.length c12, .int .i64 a.fuse, .bool a.down, .bool a.broken] 34 (0, 0)) = w3 at *
 generalize w2.heap.size = g3 at *
 have HS3 := Aside0.mk hq
 clear hq HS2
 have kg3 := thirteen (HS3.out.get 0 rfl)
 obtain ⟨⟨nv, cv⟩, hnv⟩ : ∃ p, wrR a s xs = p := ⟨_, rfl⟩
 have HNV := Aside0.mk hnv
 clear hnv
 go_upto_region 5 with (first
  | (go_at_call 9; refine (c_implStripe (s := s) (row_R (HS3.out.get 1 rfl) (HS3.out.get 2 rfl) (HS3.out.get 3 rfl)) HOK.out (O_RK (show oInt.O 3 _ Fx (.slice XA xs.length Xc) xs from HS3.out.get 4 rfl)) HXL.out).mono ?_; rw [HNV.out]; rintro e w4 ⟨u, G2, rfl, hn⟩; have hq := HS3.out.new hn; clear hn; obtain ⟨A21, c21, A22, c22, rfl⟩ := ar_form hq; simp only [arrC] at hq ⊢; have HS4 := Aside0.mk hq; clear hq kg3 HS3)
  | fail)
 have hq := HS4.out.alloc (g := w4.heap.size) rfl #[.int .i64 nv.id, .int .i64 nv.gn, .int .i64 nv.gs, .slice A21 nv.mems.length c21, .int .i64 nv.lost, .int .i64 nv.built, .int .i64 nv.seq, .int .i64 nv.tail, .int .i64 nv.gen, .slice A22 nv.dirty.length c22, .int .i64 nv.fuse, .bool nv.down, .bool nv.broken] 34
 generalize w4.alloc (.cells #[.int .i64 nv.id, .int .i64 nv.gn, .int .i64 nv.gs, .slice A21 nv.mems.length c21, .int .i64 nv.lost, .int .i64 nv.built, .int .i64 nv.seq, .int .i64 nv.tail, .int .i64 nv.gen, .slice A22 nv.dirty.length c22, .int .i64 nv.fuse, .bool nv.down, .bool nv.broken] 34 (0, 0)) = w5 at *
 generalize w4.heap.size = g6 at *
 have HS5 := Aside0.mk hq
 clear hq HS4
 have kg6 := thirteen (HS5.out.get 0 rfl)
 have kg3 := thirteen (HS5.out.get 2 rfl)
 go_upto_region 6 with (first
  | (go_at_call 6; refine (c_specStripe (s := s) (row_R (HS5.out.get 3 rfl) (HS5.out.get 4 rfl) (HS5.out.get 5 rfl)) HOK.out (O_RK (show oInt.O 3 _ Fx (.slice XA xs.length Xc) xs from HS5.out.get 6 rfl)) HXL.out).mono ?_; rw [HNV.out]; rintro e w6 ⟨u, G3, rfl, hn⟩; have hq := HS5.out.new hn; clear hn; obtain ⟨A31, c31, A32, c32, rfl⟩ := ar_form hq; simp only [arrC] at hq ⊢; have HS6 := Aside0.mk hq; clear hq kg6 kg3 HS5)
  | fail)
 have hq := HS6.out.alloc (g := w6.heap.size) rfl #[.int .i64 nv.id, .int .i64 nv.gn, .int .i64 nv.gs, .slice A31 nv.mems.length c31, .int .i64 nv.lost, .int .i64 nv.built, .int .i64 nv.seq, .int .i64 nv.tail, .int .i64 nv.gen, .slice A32 nv.dirty.length c32, .int .i64 nv.fuse, .bool nv.down, .bool nv.broken] 34
 generalize w6.alloc (.cells #[.int .i64 nv.id, .int .i64 nv.gn, .int .i64 nv.gs, .slice A31 nv.mems.length c31, .int .i64 nv.lost, .int .i64 nv.built, .int .i64 nv.seq, .int .i64 nv.tail, .int .i64 nv.gen, .slice A32 nv.dirty.length c32, .int .i64 nv.fuse, .bool nv.down, .bool nv.broken] 34 (0, 0)) = w7 at *
 generalize w6.heap.size = g8 at *
 have HS7 := Aside0.mk hq
 clear hq HS6
 have kg8 := thirteen (HS7.out.get 0 rfl)
 have kg6 := thirteen (HS7.out.get 2 rfl)
 have kg3 := thirteen (HS7.out.get 4 rfl)
 go_upto_region 7 with (first
  | (go_at_call 17; refine (c_DrawSync (HS7.out.rk HC.out) hl).mono ?_; rintro e w8 ⟨v, b, rfl, hok, ⟨A41, c41, A42, c42, F41, F42, F43, es4, rfl, hel, hq⟩⟩; simp only [arrC] at *; have hq2 := Sep.comp HS7.out hq; simp only [List.cons_append, List.nil_append] at hq2; have HO4 := Aside0.mk hok.1; clear hok hel hq; have HS8 := Aside0.mk hq2; clear hq2 kg8 kg6 kg3 HS7)
  | fail)
 have hq := HS8.out.alloc (g := w8.heap.size) rfl #[.int .i64 b.id, .int .i64 b.gn, .int .i64 b.gs, .slice A41 b.mems.length c41, .int .i64 b.lost, .int .i64 b.built, .int .i64 b.seq, .int .i64 b.tail, .int .i64 b.gen, .slice A42 b.dirty.length c42, .int .i64 b.fuse, .bool b.down, .bool b.broken] 34
 generalize w8.alloc (.cells #[.int .i64 b.id, .int .i64 b.gn, .int .i64 b.gs, .slice A41 b.mems.length c41, .int .i64 b.lost, .int .i64 b.built, .int .i64 b.seq, .int .i64 b.tail, .int .i64 b.gen, .slice A42 b.dirty.length c42, .int .i64 b.fuse, .bool b.down, .bool b.broken] 34 (0, 0)) = w9 at *
 generalize w8.heap.size = g10 at *
 have HS9 := Aside0.mk hq
 clear hq HS8
 have kg10 := thirteen (HS9.out.get 0 rfl)
 have kg8 := thirteen (HS9.out.get 4 rfl)
 have kg6 := thirteen (HS9.out.get 6 rfl)
 have kg3 := thirteen (HS9.out.get 8 rfl)
 go_upto_region 8 with (first
  | (go_at_call 18; refine (c_DrawMark (HS9.out.rk HC.out) hl).mono ?_; rintro e w10 ⟨v, d, rfl, hok, ⟨A51, c51, A52, c52, F51, F52, F53, es5, rfl, hel, hq⟩⟩; simp only [arrC] at *; have hq2 := Sep.comp HS9.out hq; simp only [List.cons_append, List.nil_append] at hq2; have HO5 := Aside0.mk hok.1; clear hok hel hq; have HS10 := Aside0.mk hq2; clear hq2 kg10 kg8 kg6 kg3 HS9)
  | fail)
 have hq := HS10.out.alloc (g := w10.heap.size) rfl #[.int .i64 d.id, .int .i64 d.gn, .int .i64 d.gs, .slice A51 d.mems.length c51, .int .i64 d.lost, .int .i64 d.built, .int .i64 d.seq, .int .i64 d.tail, .int .i64 d.gen, .slice A52 d.dirty.length c52, .int .i64 d.fuse, .bool d.down, .bool d.broken] 34
 generalize w10.alloc (.cells #[.int .i64 d.id, .int .i64 d.gn, .int .i64 d.gs, .slice A51 d.mems.length c51, .int .i64 d.lost, .int .i64 d.built, .int .i64 d.seq, .int .i64 d.tail, .int .i64 d.gen, .slice A52 d.dirty.length c52, .int .i64 d.fuse, .bool d.down, .bool d.broken] 34 (0, 0)) = w11 at *
 generalize w10.heap.size = g11 at *
 have HS11 := Aside0.mk hq
 clear hq HS10
 have kg11 := thirteen (HS11.out.get 0 rfl)
 have kg10 := thirteen (HS11.out.get 4 rfl)
 have kg8 := thirteen (HS11.out.get 8 rfl)
 have kg6 := thirteen (HS11.out.get 10 rfl)
 have kg3 := thirteen (HS11.out.get 12 rfl)
 go_upto_region 9 with (first
  | (go_at_call 19; refine (c_DrawCheck (HS11.out.rk HC.out) hl).mono ?_; rintro e w12 ⟨v, f, rfl, hok, ⟨A61, c61, A62, c62, F61, F62, F63, es6, rfl, hel, hq⟩⟩; simp only [arrC] at *; have hq2 := Sep.comp HS11.out hq; simp only [List.cons_append, List.nil_append] at hq2; have HO6 := Aside0.mk hok.1; clear hok hel hq; have HS12 := Aside0.mk hq2; clear hq2 kg11 kg10 kg8 kg6 kg3 HS11)
  | fail)
 have hq := HS12.out.alloc (g := w12.heap.size) rfl #[.int .i64 f.id, .int .i64 f.gn, .int .i64 f.gs, .slice A61 f.mems.length c61, .int .i64 f.lost, .int .i64 f.built, .int .i64 f.seq, .int .i64 f.tail, .int .i64 f.gen, .slice A62 f.dirty.length c62, .int .i64 f.fuse, .bool f.down, .bool f.broken] 34
 generalize w12.alloc (.cells #[.int .i64 f.id, .int .i64 f.gn, .int .i64 f.gs, .slice A61 f.mems.length c61, .int .i64 f.lost, .int .i64 f.built, .int .i64 f.seq, .int .i64 f.tail, .int .i64 f.gen, .slice A62 f.dirty.length c62, .int .i64 f.fuse, .bool f.down, .bool f.broken] 34 (0, 0)) = w13 at *
 generalize w12.heap.size = g12 at *
 have HS13 := Aside0.mk hq
 clear hq HS12
 have kg12 := thirteen (HS13.out.get 0 rfl)
 have kg11 := thirteen (HS13.out.get 4 rfl)
 have kg10 := thirteen (HS13.out.get 8 rfl)
 have kg8 := thirteen (HS13.out.get 12 rfl)
 have kg6 := thirteen (HS13.out.get 14 rfl)
 have kg3 := thirteen (HS13.out.get 16 rfl)
 clear kg12 kg11 kg10 kg8 kg6 kg3
 have HALL := Aside0.mk (fun (w' : World) (hb : Below w13.heap.size w13 w') => And.intro (thirteenB (HS13.out.get 0 rfl) hb) (And.intro (thirteenB (HS13.out.get 4 rfl) hb) (And.intro (thirteenB (HS13.out.get 8 rfl) hb) (And.intro (thirteenB (HS13.out.get 12 rfl) hb) ((thirteenB (HS13.out.get 14 rfl) hb))))))
 have hcv : (cv == cv) = true := by simp
 refine wp_region_seqc (fun w' => Below w13.heap.size w13 w') [29] [(0, 2), (1, 2), (2, 2), (3, 2), (4, 1), (5, 1), (6, 0), (7, 2), (8, 2), (9, 1), (11, 1), (10, 0), (12, 0), (13, 0), (14, 2), (15, 2), (16, 1), (18, 1), (17, 0), (19, 0), (20, 0), (21, 2), (22, 2), (23, 1), (25, 1), (24, 0), (26, 0), (27, 0), (28, 2), (29, 0)] (by kernel_rfl) (by kernel_rfl) ?_
 have hS : Below w13.heap.size w13 w13.drew := Below.drew (Below.refl _ _)
 repeat ((first | (refine seqp_pure rfl (fun _ _ _ h => h) (by rfl) (fun w_ => by go_simp; first | done | with_reducible rfl) ?_) | (refine seqp_take hS rfl (fun _ _ _ h => h) (by rfl) (fun w_ hSw => by have hSc := HALL.out w_ hSw; clear hSw; go_simp; first | done | with_reducible rfl) ?_) | (refine seqp_skip2 rfl (fun _ _ _ h => h) (by rfl) ?_) | (refine seqp_skip1 hS rfl (fun _ _ _ h => h) (by rfl) ?_) | (refine seqp_skip0 rfl (by rfl) ?_)); (try simp only [Act.put, qqP]))
 have HSx := Aside0.mk (HS13.out.below hS)
 refine seqp_step rfl (fun K hK => ?_)
 go_simp
 go_at_call 20; refine (c_sameArr (a := nv) (ArrO_R (HSx.out.get 15 rfl)) (ArrO_R (HSx.out.get 13 rfl))).mono ?_; rintro e w14 ⟨rfl, hb⟩
 clear HSx
 replace hS := hS.trans (hb.mono hS.size); clear hb; refine hK.out _ _ ⟨fun _ _ => hS, ?_⟩; clear hK K; (try simp only [Act.put, qqP])
 repeat ((first | (refine seqp_pure rfl (fun _ _ _ h => h) (by rfl) (fun w_ => by go_simp; first | done | with_reducible rfl) ?_) | (refine seqp_take hS rfl (fun _ _ _ h => h) (by rfl) (fun w_ hSw => by have hSc := HALL.out w_ hSw; clear hSw; go_simp; first | done | with_reducible rfl) ?_) | (refine seqp_skip2 rfl (fun _ _ _ h => h) (by rfl) ?_) | (refine seqp_skip1 hS rfl (fun _ _ _ h => h) (by rfl) ?_) | (refine seqp_skip0 rfl (by rfl) ?_)); (try simp only [Act.put, qqP]))
 have HSx := Aside0.mk (HS13.out.below hS)
 refine seqp_step rfl (fun K hK => ?_)
 go_simp
 go_at_call 21; refine (c_implSync (a := b) (row_R (HSx.out.get 9 rfl) (HSx.out.get 10 rfl) (HSx.out.get 11 rfl)) HO4.out).mono ?_; rintro e w15 ⟨u1, H1, rfl, hn⟩
 have hb := hn.below
 have HR1 := Aside0.mk (ArrO_R (show ArrO w15 H1 u1 _ from hn.lies.now))
 clear hn HSx
 replace hS := hS.trans (hb.mono hS.size); clear hb; refine hK.out _ _ ⟨fun _ _ => hS, ?_⟩; clear hK K; (try simp only [Act.put, qqP])
 repeat ((first | (refine seqp_pure rfl (fun _ _ _ h => h) (by rfl) (fun w_ => by go_simp; first | done | with_reducible rfl) ?_) | (refine seqp_take hS rfl (fun _ _ _ h => h) (by rfl) (fun w_ hSw => by have hSc := HALL.out w_ hSw; clear hSw; go_simp; first | done | with_reducible rfl) ?_) | (refine seqp_skip2 rfl (fun _ _ _ h => h) (by rfl) ?_) | (refine seqp_skip1 hS rfl (fun _ _ _ h => h) (by rfl) ?_) | (refine seqp_skip0 rfl (by rfl) ?_)); (try simp only [Act.put, qqP]))
 have HSx := Aside0.mk (HS13.out.below hS)
 refine seqp_step rfl (fun K hK => ?_)
 go_simp
 go_at_call 22; refine (c_specSync (a := b) (row_R (HSx.out.get 9 rfl) (HSx.out.get 10 rfl) (HSx.out.get 11 rfl)) HO4.out).mono ?_; rintro e w16 ⟨u2, H2, rfl, hn⟩
 have hb := hn.below
 have HR2 := Aside0.mk (ArrO_R (show ArrO w16 H2 u2 _ from hn.lies.now))
 clear hn HSx
 replace HR1 := Aside0.mk (ArrR_below HR1.out hb)
 replace hS := hS.trans (hb.mono hS.size); clear hb; refine hK.out _ _ ⟨fun _ _ => hS, ?_⟩; clear hK K; (try simp only [Act.put, qqP])
 repeat ((first | (refine seqp_pure rfl (fun _ _ _ h => h) (by rfl) (fun w_ => by go_simp; first | done | with_reducible rfl) ?_) | (refine seqp_take hS rfl (fun _ _ _ h => h) (by rfl) (fun w_ hSw => by have hSc := HALL.out w_ hSw; clear hSw; go_simp; first | done | with_reducible rfl) ?_) | (refine seqp_skip2 rfl (fun _ _ _ h => h) (by rfl) ?_) | (refine seqp_skip1 hS rfl (fun _ _ _ h => h) (by rfl) ?_) | (refine seqp_skip0 rfl (by rfl) ?_)); (try simp only [Act.put, qqP]))
 refine seqp_step rfl (fun K hK => ?_)
 go_simp
 go_at_call 20; refine (c_sameArr (a := syncR b) HR1.out HR2.out).mono ?_; rintro e w17 ⟨rfl, hb⟩
 clear HR1 HR2
 replace hS := hS.trans (hb.mono hS.size); clear hb; refine hK.out _ _ ⟨fun _ _ => hS, ?_⟩; clear hK K; (try simp only [Act.put, qqP])
 repeat ((first | (refine seqp_pure rfl (fun _ _ _ h => h) (by rfl) (fun w_ => by go_simp; first | done | with_reducible rfl) ?_) | (refine seqp_take hS rfl (fun _ _ _ h => h) (by rfl) (fun w_ hSw => by have hSc := HALL.out w_ hSw; clear hSw; go_simp; first | done | with_reducible rfl) ?_) | (refine seqp_skip2 rfl (fun _ _ _ h => h) (by rfl) ?_) | (refine seqp_skip1 hS rfl (fun _ _ _ h => h) (by rfl) ?_) | (refine seqp_skip0 rfl (by rfl) ?_)); (try simp only [Act.put, qqP]))
 have HSx := Aside0.mk (HS13.out.below hS)
 refine seqp_step rfl (fun K hK => ?_)
 go_simp
 go_at_call 23; refine (c_implMark (a := d) (row_R (HSx.out.get 5 rfl) (HSx.out.get 6 rfl) (HSx.out.get 7 rfl)) HO5.out).mono ?_; rintro e w18 ⟨u1, H1, rfl, hn⟩
 have hb := hn.below
 have HR1 := Aside0.mk (ArrO_R (show ArrO w18 H1 u1 _ from hn.lies.now))
 clear hn HSx
 replace hS := hS.trans (hb.mono hS.size); clear hb; refine hK.out _ _ ⟨fun _ _ => hS, ?_⟩; clear hK K; (try simp only [Act.put, qqP])
 repeat ((first | (refine seqp_pure rfl (fun _ _ _ h => h) (by rfl) (fun w_ => by go_simp; first | done | with_reducible rfl) ?_) | (refine seqp_take hS rfl (fun _ _ _ h => h) (by rfl) (fun w_ hSw => by have hSc := HALL.out w_ hSw; clear hSw; go_simp; first | done | with_reducible rfl) ?_) | (refine seqp_skip2 rfl (fun _ _ _ h => h) (by rfl) ?_) | (refine seqp_skip1 hS rfl (fun _ _ _ h => h) (by rfl) ?_) | (refine seqp_skip0 rfl (by rfl) ?_)); (try simp only [Act.put, qqP]))
 have HSx := Aside0.mk (HS13.out.below hS)
 refine seqp_step rfl (fun K hK => ?_)
 go_simp
 go_at_call 24; refine (c_specMark (a := d) (row_R (HSx.out.get 5 rfl) (HSx.out.get 6 rfl) (HSx.out.get 7 rfl)) HO5.out).mono ?_; rintro e w19 ⟨u2, H2, rfl, hn⟩
 have hb := hn.below
 have HR2 := Aside0.mk (ArrO_R (show ArrO w19 H2 u2 _ from hn.lies.now))
 clear hn HSx
 replace HR1 := Aside0.mk (ArrR_below HR1.out hb)
 replace hS := hS.trans (hb.mono hS.size); clear hb; refine hK.out _ _ ⟨fun _ _ => hS, ?_⟩; clear hK K; (try simp only [Act.put, qqP])
 repeat ((first | (refine seqp_pure rfl (fun _ _ _ h => h) (by rfl) (fun w_ => by go_simp; first | done | with_reducible rfl) ?_) | (refine seqp_take hS rfl (fun _ _ _ h => h) (by rfl) (fun w_ hSw => by have hSc := HALL.out w_ hSw; clear hSw; go_simp; first | done | with_reducible rfl) ?_) | (refine seqp_skip2 rfl (fun _ _ _ h => h) (by rfl) ?_) | (refine seqp_skip1 hS rfl (fun _ _ _ h => h) (by rfl) ?_) | (refine seqp_skip0 rfl (by rfl) ?_)); (try simp only [Act.put, qqP]))
 refine seqp_step rfl (fun K hK => ?_)
 go_simp
 go_at_call 20; refine (c_sameArr (a := markR d) HR1.out HR2.out).mono ?_; rintro e w20 ⟨rfl, hb⟩
 clear HR1 HR2
 replace hS := hS.trans (hb.mono hS.size); clear hb; refine hK.out _ _ ⟨fun _ _ => hS, ?_⟩; clear hK K; (try simp only [Act.put, qqP])
 repeat ((first | (refine seqp_pure rfl (fun _ _ _ h => h) (by rfl) (fun w_ => by go_simp; first | done | with_reducible rfl) ?_) | (refine seqp_take hS rfl (fun _ _ _ h => h) (by rfl) (fun w_ hSw => by have hSc := HALL.out w_ hSw; clear hSw; go_simp; first | done | with_reducible rfl) ?_) | (refine seqp_skip2 rfl (fun _ _ _ h => h) (by rfl) ?_) | (refine seqp_skip1 hS rfl (fun _ _ _ h => h) (by rfl) ?_) | (refine seqp_skip0 rfl (by rfl) ?_)); (try simp only [Act.put, qqP]))
 have HSx := Aside0.mk (HS13.out.below hS)
 refine seqp_step rfl (fun K hK => ?_)
 go_simp
 go_at_call 25; refine (c_implCheck (a := f) (row_R (HSx.out.get 1 rfl) (HSx.out.get 2 rfl) (HSx.out.get 3 rfl)) HO6.out).mono ?_; rintro e w21 ⟨u1, H1, rfl, hn⟩
 have hb := hn.below
 have HR1 := Aside0.mk (ArrO_R (show ArrO w21 H1 u1 _ from hn.lies.now))
 clear hn HSx
 replace hS := hS.trans (hb.mono hS.size); clear hb; refine hK.out _ _ ⟨fun _ _ => hS, ?_⟩; clear hK K; (try simp only [Act.put, qqP])
 repeat ((first | (refine seqp_pure rfl (fun _ _ _ h => h) (by rfl) (fun w_ => by go_simp; first | done | with_reducible rfl) ?_) | (refine seqp_take hS rfl (fun _ _ _ h => h) (by rfl) (fun w_ hSw => by have hSc := HALL.out w_ hSw; clear hSw; go_simp; first | done | with_reducible rfl) ?_) | (refine seqp_skip2 rfl (fun _ _ _ h => h) (by rfl) ?_) | (refine seqp_skip1 hS rfl (fun _ _ _ h => h) (by rfl) ?_) | (refine seqp_skip0 rfl (by rfl) ?_)); (try simp only [Act.put, qqP]))
 have HSx := Aside0.mk (HS13.out.below hS)
 refine seqp_step rfl (fun K hK => ?_)
 go_simp
 go_at_call 26; refine (c_specCheck (a := f) (row_R (HSx.out.get 1 rfl) (HSx.out.get 2 rfl) (HSx.out.get 3 rfl)) HO6.out).mono ?_; rintro e w22 ⟨u2, H2, rfl, hn⟩
 have hb := hn.below
 have HR2 := Aside0.mk (ArrO_R (show ArrO w22 H2 u2 _ from hn.lies.now))
 clear hn HSx
 replace HR1 := Aside0.mk (ArrR_below HR1.out hb)
 replace hS := hS.trans (hb.mono hS.size); clear hb; refine hK.out _ _ ⟨fun _ _ => hS, ?_⟩; clear hK K; (try simp only [Act.put, qqP])
 repeat ((first | (refine seqp_pure rfl (fun _ _ _ h => h) (by rfl) (fun w_ => by go_simp; first | done | with_reducible rfl) ?_) | (refine seqp_take hS rfl (fun _ _ _ h => h) (by rfl) (fun w_ hSw => by have hSc := HALL.out w_ hSw; clear hSw; go_simp; first | done | with_reducible rfl) ?_) | (refine seqp_skip2 rfl (fun _ _ _ h => h) (by rfl) ?_) | (refine seqp_skip1 hS rfl (fun _ _ _ h => h) (by rfl) ?_) | (refine seqp_skip0 rfl (by rfl) ?_)); (try simp only [Act.put, qqP]))
 refine seqp_step rfl (fun K hK => ?_)
 go_simp
 go_at_call 20; refine (c_sameArr (a := checkR f) HR1.out HR2.out).mono ?_; rintro e w23 ⟨rfl, hb⟩
 clear HR1 HR2
 replace hS := hS.trans (hb.mono hS.size); clear hb; refine hK.out _ _ ⟨fun _ _ => hS, ?_⟩; clear hK K; (try simp only [Act.put, qqP])
 repeat ((first | (refine seqp_pure rfl (fun _ _ _ h => h) (by rfl) (fun w_ => by go_simp; first | done | with_reducible rfl) ?_) | (refine seqp_take hS rfl (fun _ _ _ h => h) (by rfl) (fun w_ hSw => by have hSc := HALL.out w_ hSw; clear hSw; go_simp; first | done | with_reducible rfl) ?_) | (refine seqp_skip2 rfl (fun _ _ _ h => h) (by rfl) ?_) | (refine seqp_skip1 hS rfl (fun _ _ _ h => h) (by rfl) ?_) | (refine seqp_skip0 rfl (by rfl) ?_)); (try simp only [Act.put, qqP]))
 have HF := Aside0.mk (HS13.out.below hS).toBelow
 refine seqp_step rfl (fun K hK => ?_)
 go_simp
 refine hK.out _ _ ⟨(fun h => (by cases h)), ?_⟩; clear hK K; (try simp only [Act.put, qqP])
 clear hS HALL
 refine seqp_done ?_
 go_wp2
 go_ret
 exact ⟨rfl, HF.out⟩
 end LawFnWritesBent
end Go.Proofs.YtggmifnblcjdfaaGreat
