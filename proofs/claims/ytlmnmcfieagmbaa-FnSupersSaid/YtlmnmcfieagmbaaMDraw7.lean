/- What a disk knows, drawn: l3Geo, l4Draw. -/
import Derived.Test.YtlmnmcfieagmbaaMDraw2
import Derived.Test.YtlmnmcfieagmbaaSepT
import Derived.Test.YtlmnmcfieagmbaaRQ
namespace Go.Proofs.Ytlmnmcfieagmbaa.MDraw7
open Go.RowKit Go.Proofs.Ytlmnmcfieagmbaa.RJ Go.Proofs.Ytlmnmcfieagmbaa.RP Go.Proofs.Ytlmnmcfieagmbaa.RQ Go.Proofs.YtlmnmcfieagmbaaW.PrintWords Go.Proofs.Ytlmnmcfieagmbaa.Fp Go.Proofs.Ytlmnmcfieagmbaa.FpStep Go.Proofs.Ytlmnmcfieagmbaa.MInt Go.Proofs.Ytlmnmcfieagmbaa.MKinds Go.Proofs.Ytlmnmcfieagmbaa.MRead Go.Proofs.Ytlmnmcfieagmbaa.MMake Go.Proofs.Ytlmnmcfieagmbaa.MPut Go.Proofs.Ytlmnmcfieagmbaa.Sep Go.Proofs.Ytlmnmcfieagmbaa.SepStep Go.Proofs.Ytlmnmcfieagmbaa.MSuper Go.Proofs.Ytlmnmcfieagmbaa.MDraw Go.Proofs.Ytlmnmcfieagmbaa.MDraw2
set_option linter.unusedVariables false
set_option linter.unusedSimpArgs false
attribute [local go_sem ↓] Go.wp_at_zero Go.wp_at_succ
theorem two_ {w : World} {g : Nat} {a0 a1 : Value} {t : TypeId} (h : w.heap[g]? = some (.cells #[a0, a1] t (0, 0))) : w.cell? ⟨g, 0, none⟩ = some a0 ∧ w.cell? ⟨g, 1, none⟩ = some a1 := by
  refine ⟨?_, ?_⟩ <;> simp [World.cell?, h]
theorem _root_.Go.Proofs.Ytlmnmcfieagmbaa.Sep.Sep.box8 {w0 w : World} {S : List Nat} {L : List Res} (h : Sep w0 S w L) (i : Nat) {g : Nat} {t : TypeId} {a0 a1 a2 a3 a4 a5 a6 a7 : Value} (hi : L[i]? = some (bx g t #[a0, a1, a2, a3, a4, a5, a6, a7])) (b0 b1 b2 b3 b4 b5 b6 b7 : Value) :
    Sep w0 S ((((((((w.setCell ⟨g, 0, none⟩ b0).setCell ⟨g, 1, none⟩ b1).setCell ⟨g, 2, none⟩ b2).setCell ⟨g, 3, none⟩ b3).setCell ⟨g, 4, none⟩ b4).setCell ⟨g, 5, none⟩ b5).setCell ⟨g, 6, none⟩ b6).setCell ⟨g, 7, none⟩ b7) (L.set i (bx g t #[b0, b1, b2, b3, b4, b5, b6, b7])) := by
  have hl : i < L.length := (List.getElem?_eq_some_iff.1 hi).1
  have h1 := h.setb i hi 0 b0 (cs' := #[b0, a1, a2, a3, a4, a5, a6, a7]) rfl
  have h2 := h1.setb i (g := g) (t := t) (cs := #[b0, a1, a2, a3, a4, a5, a6, a7]) (by simp [hl]) 1 b1 (cs' := #[b0, b1, a2, a3, a4, a5, a6, a7]) rfl
  have h3 := h2.setb i (g := g) (t := t) (cs := #[b0, b1, a2, a3, a4, a5, a6, a7]) (by simp [hl]) 2 b2 (cs' := #[b0, b1, b2, a3, a4, a5, a6, a7]) rfl
  have h4 := h3.setb i (g := g) (t := t) (cs := #[b0, b1, b2, a3, a4, a5, a6, a7]) (by simp [hl]) 3 b3 (cs' := #[b0, b1, b2, b3, a4, a5, a6, a7]) rfl
  have h5 := h4.setb i (g := g) (t := t) (cs := #[b0, b1, b2, b3, a4, a5, a6, a7]) (by simp [hl]) 4 b4 (cs' := #[b0, b1, b2, b3, b4, a5, a6, a7]) rfl
  have h6 := h5.setb i (g := g) (t := t) (cs := #[b0, b1, b2, b3, b4, a5, a6, a7]) (by simp [hl]) 5 b5 (cs' := #[b0, b1, b2, b3, b4, b5, a6, a7]) rfl
  have h7 := h6.setb i (g := g) (t := t) (cs := #[b0, b1, b2, b3, b4, b5, a6, a7]) (by simp [hl]) 6 b6 (cs' := #[b0, b1, b2, b3, b4, b5, b6, a7]) rfl
  have h8 := h7.setb i (g := g) (t := t) (cs := #[b0, b1, b2, b3, b4, b5, b6, a7]) (by simp [hl]) 7 b7 (cs' := #[b0, b1, b2, b3, b4, b5, b6, b7]) rfl
  simpa using h8
theorem sup_mk {id gen role n st tail lost built : Int} (h1 : 1 ≤ id ∧ id ≤ 60000) (h2 : 0 ≤ gen ∧ gen ≤ 60000) (h3 : 0 ≤ role ∧ role < n) (h4 : 0 ≤ tail ∧ tail ≤ 60000) (h5 : 3 ≤ n ∧ n ≤ 5) (h6 : 1 ≤ st ∧ st ≤ 8) (h7 : (lost = -1 ∧ built = 0) ∨ (0 ≤ lost ∧ lost < n ∧ 0 ≤ built ∧ built ≤ st)) : supB ⟨id, gen, role, n, st, tail, lost, built⟩ = true := by
  simp only [supB, lostB, geoB, inR, Bool.and_eq_true, Bool.or_eq_true, decide_eq_true_eq, beq_iff_eq, bne_iff_ne]
  omega
theorem cut_ {G R : Prop} (main : Aside0 G → R) (pf : G) : R := main ⟨pf⟩
theorem c_l1Once {w0 w : World} {L : List Res} {g : Nat} {B : Value} {bs : List Int} {i h n : Int} (hs : Sep w0 [] w (cur g B i h :: L)) (hB : RK (Kd.int .u8) w0 B bs) (hi : 0 ≤ i ∧ i ≤ bs.length) (hn : n ≤ 256) :
    Calls Try.prog 153 #[.pointer (some ⟨g, 0, none⟩), .int .i64 n] w fun e w' => ∃ (b : Bool) (i' h' : Int), e = .returned (.bool b) ∧ (0 ≤ i' ∧ i' ≤ bs.length) ∧ Sep w0 [] w' (cur g B i' h' :: L) := by
  have HS := Aside0.mk hs
  clear hs
  go_enter Try.func153, Try.ntmps153
  go_wp2_with (first
    | (go_at_call 129; refine (c_l1Below HS.out hB hi hn).mono ?_; rintro e w1 ⟨x, i1, h1, rfl, hx0, hx1, hi1, hs1⟩; have HS1 := Aside0.mk hs1; clear hs1 hx1)
    | fail)
  go_ret
  exact ⟨_, i1, h1, rfl, hi1, HS1.out⟩
set_option maxHeartbeats 2000000 in
theorem c_l3Geo {w0 w : World} {L : List Res} {g : Nat} {B : Value} {bs : List Int} {i h : Int} (hs : Sep w0 [] w (cur g B i h :: L)) (hB : RK (Kd.int .u8) w0 B bs) (hi : 0 ≤ i ∧ i ≤ bs.length) :
    Calls Try.prog 152 #[.pointer (some ⟨g, 0, none⟩)] w fun e w' => ∃ (N st i' h' : Int), e = .returned (.agg #[.int .i64 N, .int .i64 st]) ∧ ((3 ≤ N ∧ N ≤ 5) ∧ (1 ≤ st ∧ st ≤ 8)) ∧ (0 ≤ i' ∧ i' ≤ bs.length) ∧ Sep w0 [] w' (cur g B i' h' :: L) := by
  have HS := Aside0.mk hs
  clear hs
  go_enter Try.func152, Try.ntmps152
  go_wp2_with (first
    | (go_at_call 129; (first
        | (refine (c_l1Below HS1.out hB hi1 (by omega)).mono ?_; rintro e w2 ⟨y, i2, h2, rfl, hy0, hy1, hi2, hs2⟩; have hy2 := hy1 (by omega); have HS2 := Aside0.mk hs2; obtain ⟨z0, z1⟩ := two_ (HS2.out.get 1 rfl); have fz := blk_frozen (HS2.out.get 1 rfl); clear hs2 hy1)
        | (refine (c_l1Below ((HS.out.alloc (g := w.heap.size) rfl #[.int .i64 0, .int .i64 0] 78).perm (List.Perm.swap _ _ _)) hB hi (by omega)).mono ?_; rintro e w1 ⟨x, i1, h1, rfl, hx0, hx1, hi1, hs1⟩; have hx2 := hx1 (by omega); have HS1 := Aside0.mk hs1; clear hs1 hx1)))
    | fail)
  have HE : Sep w0 [] _ _ := (HS2.out.setb 1 rfl 0 (.int .i64 (3 + x)) (cs' := #[.int .i64 (3 + x), .int .i64 0]) rfl).setb 1 (t := 78) (cs := #[.int .i64 (3 + x), .int .i64 0]) rfl 1 (.int .i64 (1 + y)) (cs' := #[.int .i64 (3 + x), .int .i64 (1 + y)]) rfl
  have h9 := HE.drop 1 rfl
  refine bodyPost_ret (results_cell_row rfl _ _ w.heap.size 78 #[.int .i64 (3 + x), .int .i64 (1 + y)] (0, 0) _ rfl (HE.get 1 rfl) Try.underlying78 rfl (by kernel_rfl)) rfl ?_
  first | exact ⟨3 + x, 1 + y, i2, h2, rfl, ⟨⟨by omega, by omega⟩, by omega, by omega⟩, hi2, h9⟩ | (refine ⟨3 + x, 1 + y, ?_⟩; trace_state; fail)
set_option maxHeartbeats 40000000 in
set_option maxRecDepth 100000 in
theorem c_l4Draw {w0 w : World} {L : List Res} {g : Nat} {B : Value} {bs : List Int} {i h : Int} (hs : Sep w0 [] w (cur g B i h :: L)) (hB : RK (Kd.int .u8) w0 B bs) (hi : 0 ≤ i ∧ i ≤ bs.length) :
    Calls Try.prog 128 #[.pointer (some ⟨g, 0, none⟩)] w fun e w' => ∃ (s : SupV) (i' h' : Int), e = .returned (.agg (supA s)) ∧ supB s = true ∧ (0 ≤ i' ∧ i' ≤ bs.length) ∧ Sep w0 [] w' (cur g B i' h' :: L) := by
  have HS := Aside0.mk hs
  clear hs
  go_enter Try.func128, Try.ntmps128
  go_upto_region 2 with (first
    | (go_at_call 152; refine (c_l3Geo ((HS.out.alloc (g := w.heap.size) rfl #[.int .i64 0, .int .i64 0, .int .i64 0, .int .i64 0, .int .i64 0, .int .i64 0, .int .i64 0, .int .i64 0] 53).perm (List.Perm.swap _ _ _)) hB hi).mono ?_; rintro e w1 ⟨N, st, i3, h3, rfl, hG, hi3, hs1⟩; have HS1 := Aside0.mk hs1; clear hs1)
    | fail)
  obtain ⟨⟨hN0, hN1⟩, hs0, hs1⟩ := hG
  have hB2 := HS1.out.alloc (g := w1.heap.size) rfl #[.int .i64 N, .int .i64 st] 78
  generalize hg : w1.heap.size = gG at *
  generalize hw : w1.alloc (.cells #[.int .i64 N, .int .i64 st] 78 (0, 0)) = w2 at *
  have HS2 := Aside0.mk hB2
  clear hB2 hg hw HS1
  go_cut [4] (fun s4 wx => ∃ (gs : Nat) (id gen role tail i' h' : Int), s4 = .pointer (some ⟨gs, 0, none⟩) ∧ ((1 ≤ id ∧ id ≤ 3) ∧ (0 ≤ gen ∧ gen ≤ 60000) ∧ (0 ≤ role ∧ role < N) ∧ (0 ≤ tail ∧ tail ≤ 60000)) ∧ (0 ≤ i' ∧ i' ≤ bs.length) ∧ Aside0 (Sep w0 [] wx (bx gs 53 #[.int .i64 id, .int .i64 gen, .int .i64 role, .int .i64 N, .int .i64 st, .int .i64 tail, .int .i64 (-1), .int .i64 0] :: cur g B i' h' :: bx gG 78 #[.int .i64 N, .int .i64 st] :: bx w.heap.size 53 #[.int .i64 0, .int .i64 0, .int .i64 0, .int .i64 0, .int .i64 0, .int .i64 0, .int .i64 0, .int .i64 0] :: L)))
  case first =>
    refine wp_region_tr (fun w' => w'.cell? ⟨gG, 0, none⟩ = some (.int .i64 N) ∧ w'.cell? ⟨gG, 1, none⟩ = some (.int .i64 st)) [19] (Tr.p 0 (Tr.p 3 (Tr.p 6 (Tr.p 7 (Tr.p 10 (Tr.p 12 (Tr.p 14 (Tr.t 8 (Tr.t 11 (Tr.t 13 (Tr.alt 1 (Tr.p 2 (Tr.alt 4 (Tr.alt 5 (Tr.alt 9 (Tr.alt 15 (Tr.alt 16 (Tr.p 17 (Tr.s 18 (Tr.s 19 (Tr.nil)))) (Tr.s 18 (Tr.s 16 (Tr.p 17 (Tr.s 19 (Tr.nil)))))) (Tr.s 18 (Tr.s 15 (Tr.s 16 (Tr.p 17 (Tr.s 19 (Tr.nil))))))) (Tr.alt 15 (Tr.alt 9 (Tr.alt 16 (Tr.p 17 (Tr.s 18 (Tr.s 19 (Tr.nil)))) (Tr.s 18 (Tr.s 16 (Tr.p 17 (Tr.s 19 (Tr.nil)))))) (Tr.s 18 (Tr.s 9 (Tr.s 16 (Tr.p 17 (Tr.s 19 (Tr.nil))))))) (Tr.s 18 (Tr.alt 9 (Tr.s 15 (Tr.s 16 (Tr.p 17 (Tr.s 19 (Tr.nil))))) (Tr.s 15 (Tr.s 9 (Tr.s 16 (Tr.p 17 (Tr.s 19 (Tr.nil)))))))))) (Tr.alt 15 (Tr.alt 5 (Tr.alt 9 (Tr.alt 16 (Tr.p 17 (Tr.s 18 (Tr.s 19 (Tr.nil)))) (Tr.s 18 (Tr.s 16 (Tr.p 17 (Tr.s 19 (Tr.nil)))))) (Tr.s 18 (Tr.s 9 (Tr.s 16 (Tr.p 17 (Tr.s 19 (Tr.nil))))))) (Tr.s 18 (Tr.s 5 (Tr.s 9 (Tr.s 16 (Tr.p 17 (Tr.s 19 (Tr.nil)))))))) (Tr.s 18 (Tr.alt 5 (Tr.alt 9 (Tr.s 15 (Tr.s 16 (Tr.p 17 (Tr.s 19 (Tr.nil))))) (Tr.s 15 (Tr.s 9 (Tr.s 16 (Tr.p 17 (Tr.s 19 (Tr.nil))))))) (Tr.s 15 (Tr.s 5 (Tr.s 9 (Tr.s 16 (Tr.p 17 (Tr.s 19 (Tr.nil))))))))))) (Tr.alt 15 (Tr.alt 4 (Tr.alt 5 (Tr.alt 9 (Tr.alt 16 (Tr.p 17 (Tr.s 18 (Tr.s 19 (Tr.nil)))) (Tr.s 18 (Tr.s 16 (Tr.p 17 (Tr.s 19 (Tr.nil)))))) (Tr.s 18 (Tr.s 9 (Tr.s 16 (Tr.p 17 (Tr.s 19 (Tr.nil))))))) (Tr.s 18 (Tr.s 5 (Tr.s 9 (Tr.s 16 (Tr.p 17 (Tr.s 19 (Tr.nil)))))))) (Tr.s 18 (Tr.s 4 (Tr.s 5 (Tr.s 9 (Tr.s 16 (Tr.p 17 (Tr.s 19 (Tr.nil))))))))) (Tr.s 18 (Tr.alt 4 (Tr.alt 5 (Tr.alt 9 (Tr.s 15 (Tr.s 16 (Tr.p 17 (Tr.s 19 (Tr.nil))))) (Tr.s 15 (Tr.s 9 (Tr.s 16 (Tr.p 17 (Tr.s 19 (Tr.nil))))))) (Tr.s 15 (Tr.s 5 (Tr.s 9 (Tr.s 16 (Tr.p 17 (Tr.s 19 (Tr.nil)))))))) (Tr.s 15 (Tr.s 4 (Tr.s 5 (Tr.s 9 (Tr.s 16 (Tr.p 17 (Tr.s 19 (Tr.nil))))))))))))) (Tr.alt 4 (Tr.alt 1 (Tr.p 2 (Tr.alt 5 (Tr.alt 9 (Tr.alt 15 (Tr.alt 16 (Tr.p 17 (Tr.s 18 (Tr.s 19 (Tr.nil)))) (Tr.s 18 (Tr.s 16 (Tr.p 17 (Tr.s 19 (Tr.nil)))))) (Tr.s 18 (Tr.s 15 (Tr.s 16 (Tr.p 17 (Tr.s 19 (Tr.nil))))))) (Tr.alt 15 (Tr.alt 9 (Tr.alt 16 (Tr.p 17 (Tr.s 18 (Tr.s 19 (Tr.nil)))) (Tr.s 18 (Tr.s 16 (Tr.p 17 (Tr.s 19 (Tr.nil)))))) (Tr.s 18 (Tr.s 9 (Tr.s 16 (Tr.p 17 (Tr.s 19 (Tr.nil))))))) (Tr.s 18 (Tr.alt 9 (Tr.s 15 (Tr.s 16 (Tr.p 17 (Tr.s 19 (Tr.nil))))) (Tr.s 15 (Tr.s 9 (Tr.s 16 (Tr.p 17 (Tr.s 19 (Tr.nil)))))))))) (Tr.alt 15 (Tr.alt 5 (Tr.alt 9 (Tr.alt 16 (Tr.p 17 (Tr.s 18 (Tr.s 19 (Tr.nil)))) (Tr.s 18 (Tr.s 16 (Tr.p 17 (Tr.s 19 (Tr.nil)))))) (Tr.s 18 (Tr.s 9 (Tr.s 16 (Tr.p 17 (Tr.s 19 (Tr.nil))))))) (Tr.s 18 (Tr.s 5 (Tr.s 9 (Tr.s 16 (Tr.p 17 (Tr.s 19 (Tr.nil)))))))) (Tr.s 18 (Tr.alt 5 (Tr.alt 9 (Tr.s 15 (Tr.s 16 (Tr.p 17 (Tr.s 19 (Tr.nil))))) (Tr.s 15 (Tr.s 9 (Tr.s 16 (Tr.p 17 (Tr.s 19 (Tr.nil))))))) (Tr.s 15 (Tr.s 5 (Tr.s 9 (Tr.s 16 (Tr.p 17 (Tr.s 19 (Tr.nil)))))))))))) (Tr.alt 15 (Tr.alt 1 (Tr.p 2 (Tr.alt 5 (Tr.alt 9 (Tr.alt 16 (Tr.p 17 (Tr.s 18 (Tr.s 19 (Tr.nil)))) (Tr.s 18 (Tr.s 16 (Tr.p 17 (Tr.s 19 (Tr.nil)))))) (Tr.s 18 (Tr.s 9 (Tr.s 16 (Tr.p 17 (Tr.s 19 (Tr.nil))))))) (Tr.s 18 (Tr.s 5 (Tr.s 9 (Tr.s 16 (Tr.p 17 (Tr.s 19 (Tr.nil))))))))) (Tr.s 18 (Tr.s 1 (Tr.p 2 (Tr.s 5 (Tr.s 9 (Tr.s 16 (Tr.p 17 (Tr.s 19 (Tr.nil)))))))))) (Tr.s 18 (Tr.alt 1 (Tr.p 2 (Tr.alt 5 (Tr.alt 9 (Tr.s 15 (Tr.s 16 (Tr.p 17 (Tr.s 19 (Tr.nil))))) (Tr.s 15 (Tr.s 9 (Tr.s 16 (Tr.p 17 (Tr.s 19 (Tr.nil))))))) (Tr.s 15 (Tr.s 5 (Tr.s 9 (Tr.s 16 (Tr.p 17 (Tr.s 19 (Tr.nil))))))))) (Tr.s 15 (Tr.s 1 (Tr.p 2 (Tr.s 5 (Tr.s 9 (Tr.s 16 (Tr.p 17 (Tr.s 19 (Tr.nil))))))))))))) (Tr.alt 15 (Tr.alt 1 (Tr.p 2 (Tr.alt 4 (Tr.alt 5 (Tr.alt 9 (Tr.alt 16 (Tr.p 17 (Tr.s 18 (Tr.s 19 (Tr.nil)))) (Tr.s 18 (Tr.s 16 (Tr.p 17 (Tr.s 19 (Tr.nil)))))) (Tr.s 18 (Tr.s 9 (Tr.s 16 (Tr.p 17 (Tr.s 19 (Tr.nil))))))) (Tr.s 18 (Tr.s 5 (Tr.s 9 (Tr.s 16 (Tr.p 17 (Tr.s 19 (Tr.nil)))))))) (Tr.s 18 (Tr.s 4 (Tr.s 5 (Tr.s 9 (Tr.s 16 (Tr.p 17 (Tr.s 19 (Tr.nil)))))))))) (Tr.alt 4 (Tr.alt 1 (Tr.p 2 (Tr.alt 5 (Tr.alt 9 (Tr.alt 16 (Tr.p 17 (Tr.s 18 (Tr.s 19 (Tr.nil)))) (Tr.s 18 (Tr.s 16 (Tr.p 17 (Tr.s 19 (Tr.nil)))))) (Tr.s 18 (Tr.s 9 (Tr.s 16 (Tr.p 17 (Tr.s 19 (Tr.nil))))))) (Tr.s 18 (Tr.s 5 (Tr.s 9 (Tr.s 16 (Tr.p 17 (Tr.s 19 (Tr.nil))))))))) (Tr.s 18 (Tr.s 1 (Tr.p 2 (Tr.s 5 (Tr.s 9 (Tr.s 16 (Tr.p 17 (Tr.s 19 (Tr.nil)))))))))) (Tr.s 18 (Tr.alt 1 (Tr.p 2 (Tr.s 4 (Tr.s 5 (Tr.s 9 (Tr.s 16 (Tr.p 17 (Tr.s 19 (Tr.nil)))))))) (Tr.s 4 (Tr.s 1 (Tr.p 2 (Tr.s 5 (Tr.s 9 (Tr.s 16 (Tr.p 17 (Tr.s 19 (Tr.nil))))))))))))) (Tr.s 18 (Tr.alt 1 (Tr.p 2 (Tr.alt 4 (Tr.alt 5 (Tr.alt 9 (Tr.s 15 (Tr.s 16 (Tr.p 17 (Tr.s 19 (Tr.nil))))) (Tr.s 15 (Tr.s 9 (Tr.s 16 (Tr.p 17 (Tr.s 19 (Tr.nil))))))) (Tr.s 15 (Tr.s 5 (Tr.s 9 (Tr.s 16 (Tr.p 17 (Tr.s 19 (Tr.nil)))))))) (Tr.s 15 (Tr.s 4 (Tr.s 5 (Tr.s 9 (Tr.s 16 (Tr.p 17 (Tr.s 19 (Tr.nil)))))))))) (Tr.alt 4 (Tr.alt 1 (Tr.p 2 (Tr.alt 5 (Tr.alt 9 (Tr.s 15 (Tr.s 16 (Tr.p 17 (Tr.s 19 (Tr.nil))))) (Tr.s 15 (Tr.s 9 (Tr.s 16 (Tr.p 17 (Tr.s 19 (Tr.nil))))))) (Tr.s 15 (Tr.s 5 (Tr.s 9 (Tr.s 16 (Tr.p 17 (Tr.s 19 (Tr.nil))))))))) (Tr.s 15 (Tr.s 1 (Tr.p 2 (Tr.s 5 (Tr.s 9 (Tr.s 16 (Tr.p 17 (Tr.s 19 (Tr.nil)))))))))) (Tr.s 15 (Tr.alt 1 (Tr.p 2 (Tr.s 4 (Tr.s 5 (Tr.s 9 (Tr.s 16 (Tr.p 17 (Tr.s 19 (Tr.nil)))))))) (Tr.s 4 (Tr.s 1 (Tr.p 2 (Tr.s 5 (Tr.s 9 (Tr.s 16 (Tr.p 17 (Tr.s 19 (Tr.nil))))))))))))))))))))))))))) (by kernel_rfl) (by kernel_rfl) ?_
    have hq := HS2.out.drew
    generalize w2.drew = w3 at *
    have HS3 := Aside0.mk hq
    clear hq HS2
    have hS : (fun w' : World => w'.cell? ⟨gG, 0, none⟩ = some (.int .i64 N) ∧ w'.cell? ⟨gG, 1, none⟩ = some (.int .i64 st)) w3 := two_ (HS3.out.get 0 rfl)
    apply cut_
    case' main => intro key25
    apply cut_
    case' main => intro key24
    apply cut_
    case' main => intro key22
    apply cut_
    case' main => intro key21
    apply cut_
    case' main => intro key20
    apply cut_
    case' main => intro key19
    apply cut_
    case' main => intro key18
    apply cut_
    case' main => intro key17
    apply cut_
    case' main => intro key15
    apply cut_
    case' main => intro key14
    apply cut_
    case' main => intro key13
    apply cut_
    case' main => intro key12
    apply cut_
    case' main => intro key10
    apply cut_
    case' main => intro key9
    apply cut_
    case' main => intro key8
    apply cut_
    case' main => intro key7
    apply cut_
    case' main => intro key6
    apply cut_
    case' main => intro key5
    iterate 7 (refine tr_pure rfl (fun _ _ _ h => h) (by rfl) (fun w_ => by go_simp; first | done | with_reducible rfl) ?_; (try simp only [Act.put, List.getElem_toArray, List.getElem_cons_succ, List.getElem_cons_zero, List.setIfInBounds_toArray, List.set_cons_zero, List.set_cons_succ]))
    iterate 3 (refine tr_take hS rfl (fun _ _ _ h => h) (by rfl) (fun w_ hSw => by (try dsimp only at hSw); go_simp; first | done | with_reducible rfl) ?_; (try simp only [Act.put, List.getElem_toArray, List.getElem_cons_succ, List.getElem_cons_zero, List.setIfInBounds_toArray, List.set_cons_zero, List.set_cons_succ]))
    have HSv := Aside0.mk (HS3.out.selT 3 [1, 0, 2] (by decide) (by simp <;> omega))
    simp only [List.map_cons, List.map_nil, pick, List.getD_cons_succ, List.getD_cons_zero, List.set_cons_zero, List.set_cons_succ, List.eraseIdx_cons_zero, List.eraseIdx_cons_succ, List.drop_succ_cons, List.drop_zero, List.append_eq, List.cons_append, List.nil_append, List.setIfInBounds_toArray] at HSv
    have hii := hi3
    generalize hwv : w3 = wv at HSv ⊢
    clear hwv
    generalize hwi : i3 = ii at HSv hii
    clear hwi
    generalize hwh : h3 = hh_ at HSv
    clear hwh
    refine tr_two ?_ ?_
    · skip
      refine tr_step rfl (fun K hK => ?_)
      go_simp
      go_at_call 129; refine (c_l1Below HSv.out hB hii (by omega)).mono ?_; rintro e wv ⟨xa, ii, hh_, rfl, xa0, xa1, hjj, hs⟩
      have xa2 := xa1 (by omega)
      clear HSv hii xa1
      have hwa : IntKind.i64.wrap (1 + xa) = 1 + xa := by rw [IntKind.wrap_i64]; omega
      have hii := hjj
      have HSv := Aside0.mk hs
      clear hs hjj
      refine hK.out _ _ ⟨fun _ _ => two_ (HSv.out.get 1 rfl), ?_⟩; clear hK K; (try simp only [Act.put, List.getElem_toArray, List.getElem_cons_succ, List.getElem_cons_zero, List.setIfInBounds_toArray, List.set_cons_zero, List.set_cons_succ])
      iterate 1 (refine tr_pure rfl (fun _ _ _ h => h) (by rfl) (fun w_ => by go_simp; first | done | with_reducible rfl) ?_; (try simp only [Act.put, List.getElem_toArray, List.getElem_cons_succ, List.getElem_cons_zero, List.setIfInBounds_toArray, List.set_cons_zero, List.set_cons_succ]))
      refine tr_two ?_ ?_
      · skip
        refine tr_step rfl (fun K hK => ?_)
        go_simp
        have hq := new_lit HSv.out (g := wv.heap.size) rfl 3 (#[.int .i64 0, .int .i64 1, .int .i64 2, .int .i64 3, .int .i64 60000]) (l := [0, 1, 2, 3, 60000]) (n := 5) rfl rfl (by decide)
        have hr := hq.selT 4 [1, 2, 0, 3] (by decide) (by simp <;> omega)
        simp only [List.map_cons, List.map_nil, pick, List.getD_cons_succ, List.getD_cons_zero, List.set_cons_zero, List.set_cons_succ, List.eraseIdx_cons_zero, List.eraseIdx_cons_succ, List.drop_succ_cons, List.drop_zero, List.append_eq, List.cons_append, List.nil_append, List.setIfInBounds_toArray] at hr
        have HSn := Aside0.mk hr
        clear hq hr HSv
        refine hK.out _ _ ⟨fun _ _ => two_ (HSn.out.get 1 rfl), ?_⟩; clear hK K; (try simp only [Act.put, List.getElem_toArray, List.getElem_cons_succ, List.getElem_cons_zero, List.setIfInBounds_toArray, List.set_cons_zero, List.set_cons_succ])
        generalize hgw : wv.heap.size = gla at *
        generalize hww : wv.alloc (.cells #[.int .i64 0, .int .i64 1, .int .i64 2, .int .i64 3, .int .i64 60000] 3 (0, 0)) = wv at *
        clear hgw hww
        have HSv := HSn
        clear HSn
        revert HSv; revert hii; revert hwa; revert xa2; revert xa0; revert xa; revert hh_; revert ii; revert gla; revert wv
        exact key5.out
      refine tr_two ?_ ?_
      · skip
        refine tr_step rfl (fun K hK => ?_)
        go_simp
        have hq := new_lit HSv.out (g := wv.heap.size) rfl 3 (#[.int .i64 0, .int .i64 1, .int .i64 5, .int .i64 60000]) (l := [0, 1, 5, 60000]) (n := 4) rfl rfl (by decide)
        have hr := hq.selT 4 [1, 2, 0, 3] (by decide) (by simp <;> omega)
        simp only [List.map_cons, List.map_nil, pick, List.getD_cons_succ, List.getD_cons_zero, List.set_cons_zero, List.set_cons_succ, List.eraseIdx_cons_zero, List.eraseIdx_cons_succ, List.drop_succ_cons, List.drop_zero, List.append_eq, List.cons_append, List.nil_append, List.setIfInBounds_toArray] at hr
        have HSn := Aside0.mk hr
        clear hq hr HSv
        refine hK.out _ _ ⟨fun _ _ => two_ (HSn.out.get 1 rfl), ?_⟩; clear hK K; (try simp only [Act.put, List.getElem_toArray, List.getElem_cons_succ, List.getElem_cons_zero, List.setIfInBounds_toArray, List.set_cons_zero, List.set_cons_succ])
        generalize hgw : wv.heap.size = glb at *
        generalize hww : wv.alloc (.cells #[.int .i64 0, .int .i64 1, .int .i64 5, .int .i64 60000] 3 (0, 0)) = wv at *
        clear hgw hww
        have HSv := HSn
        clear HSn
        revert HSv; revert hii; revert hwa; revert xa2; revert xa0; revert xa; revert hh_; revert ii; revert glb; revert wv
        exact key6.out
      refine tr_step rfl (fun K hK => ?_)
      go_simp
      have hq := HSv.out.alloc (g := wv.heap.size) rfl #[.int .i64 0, .int .i64 0, .int .i64 0, .int .i64 0, .int .i64 0, .int .i64 0, .int .i64 0, .int .i64 0] 53
      have hr := hq.selT 4 [1, 2, 0, 3] (by decide) (by simp <;> omega)
      simp only [List.map_cons, List.map_nil, pick, List.getD_cons_succ, List.getD_cons_zero, List.set_cons_zero, List.set_cons_succ, List.eraseIdx_cons_zero, List.eraseIdx_cons_succ, List.drop_succ_cons, List.drop_zero, List.append_eq, List.cons_append, List.nil_append, List.setIfInBounds_toArray] at hr
      have HSn := Aside0.mk hr
      clear hq hr HSv
      refine hK.out _ _ ⟨fun _ _ => two_ (HSn.out.get 1 rfl), ?_⟩; clear hK K; (try simp only [Act.put, List.getElem_toArray, List.getElem_cons_succ, List.getElem_cons_zero, List.setIfInBounds_toArray, List.set_cons_zero, List.set_cons_succ])
      generalize hgw : wv.heap.size = gz at *
      generalize hww : wv.alloc (.cells #[.int .i64 0, .int .i64 0, .int .i64 0, .int .i64 0, .int .i64 0, .int .i64 0, .int .i64 0, .int .i64 0] 53 (0, 0)) = wv at *
      clear hgw hww
      have HSv := HSn
      clear HSn
      revert HSv; revert hii; revert hwa; revert xa2; revert xa0; revert xa; revert hh_; revert ii; revert gz; revert wv
      exact key7.out
    refine tr_two ?_ ?_
    · skip
      refine tr_step rfl (fun K hK => ?_)
      go_simp
      have hq := new_lit HSv.out (g := wv.heap.size) rfl 3 (#[.int .i64 0, .int .i64 1, .int .i64 2, .int .i64 3, .int .i64 60000]) (l := [0, 1, 2, 3, 60000]) (n := 5) rfl rfl (by decide)
      have hr := hq.selT 4 [1, 2, 0, 3] (by decide) (by simp <;> omega)
      simp only [List.map_cons, List.map_nil, pick, List.getD_cons_succ, List.getD_cons_zero, List.set_cons_zero, List.set_cons_succ, List.eraseIdx_cons_zero, List.eraseIdx_cons_succ, List.drop_succ_cons, List.drop_zero, List.append_eq, List.cons_append, List.nil_append, List.setIfInBounds_toArray] at hr
      have HSn := Aside0.mk hr
      clear hq hr HSv
      refine hK.out _ _ ⟨fun _ _ => two_ (HSn.out.get 1 rfl), ?_⟩; clear hK K; (try simp only [Act.put, List.getElem_toArray, List.getElem_cons_succ, List.getElem_cons_zero, List.setIfInBounds_toArray, List.set_cons_zero, List.set_cons_succ])
      generalize hgw : wv.heap.size = gla at *
      generalize hww : wv.alloc (.cells #[.int .i64 0, .int .i64 1, .int .i64 2, .int .i64 3, .int .i64 60000] 3 (0, 0)) = wv at *
      clear hgw hww
      have HSv := HSn
      clear HSn
      refine tr_two ?_ ?_
      · skip
        refine tr_step rfl (fun K hK => ?_)
        go_simp
        go_at_call 129; refine (c_l1Below HSv.out hB hii (by omega)).mono ?_; rintro e wv ⟨xa, ii, hh_, rfl, xa0, xa1, hjj, hs⟩
        have xa2 := xa1 (by omega)
        clear HSv hii xa1
        have hwa : IntKind.i64.wrap (1 + xa) = 1 + xa := by rw [IntKind.wrap_i64]; omega
        have hii := hjj
        have HSv := Aside0.mk hs
        clear hs hjj
        refine hK.out _ _ ⟨fun _ _ => two_ (HSv.out.get 1 rfl), ?_⟩; clear hK K; (try simp only [Act.put, List.getElem_toArray, List.getElem_cons_succ, List.getElem_cons_zero, List.setIfInBounds_toArray, List.set_cons_zero, List.set_cons_succ])
        iterate 1 (refine tr_pure rfl (fun _ _ _ h => h) (by rfl) (fun w_ => by go_simp; first | done | with_reducible rfl) ?_; (try simp only [Act.put, List.getElem_toArray, List.getElem_cons_succ, List.getElem_cons_zero, List.setIfInBounds_toArray, List.set_cons_zero, List.set_cons_succ]))
        revert HSv; revert hii; revert hwa; revert xa2; revert xa0; revert xa; revert hh_; revert ii; revert gla; revert wv
        exact key5.out
      refine tr_two ?_ ?_
      · skip
        refine tr_step rfl (fun K hK => ?_)
        go_simp
        have hq := new_lit HSv.out (g := wv.heap.size) rfl 3 (#[.int .i64 0, .int .i64 1, .int .i64 5, .int .i64 60000]) (l := [0, 1, 5, 60000]) (n := 4) rfl rfl (by decide)
        have hr := hq.selT 5 [1, 2, 3, 0, 4] (by decide) (by simp <;> omega)
        simp only [List.map_cons, List.map_nil, pick, List.getD_cons_succ, List.getD_cons_zero, List.set_cons_zero, List.set_cons_succ, List.eraseIdx_cons_zero, List.eraseIdx_cons_succ, List.drop_succ_cons, List.drop_zero, List.append_eq, List.cons_append, List.nil_append, List.setIfInBounds_toArray] at hr
        have HSn := Aside0.mk hr
        clear hq hr HSv
        refine hK.out _ _ ⟨fun _ _ => two_ (HSn.out.get 1 rfl), ?_⟩; clear hK K; (try simp only [Act.put, List.getElem_toArray, List.getElem_cons_succ, List.getElem_cons_zero, List.setIfInBounds_toArray, List.set_cons_zero, List.set_cons_succ])
        generalize hgw : wv.heap.size = glb at *
        generalize hww : wv.alloc (.cells #[.int .i64 0, .int .i64 1, .int .i64 5, .int .i64 60000] 3 (0, 0)) = wv at *
        clear hgw hww
        have HSv := HSn
        clear HSn
        revert HSv; revert hii; revert hh_; revert ii; revert glb; revert gla; revert wv
        exact key8.out
      refine tr_step rfl (fun K hK => ?_)
      go_simp
      have hq := HSv.out.alloc (g := wv.heap.size) rfl #[.int .i64 0, .int .i64 0, .int .i64 0, .int .i64 0, .int .i64 0, .int .i64 0, .int .i64 0, .int .i64 0] 53
      have hr := hq.selT 5 [1, 2, 3, 0, 4] (by decide) (by simp <;> omega)
      simp only [List.map_cons, List.map_nil, pick, List.getD_cons_succ, List.getD_cons_zero, List.set_cons_zero, List.set_cons_succ, List.eraseIdx_cons_zero, List.eraseIdx_cons_succ, List.drop_succ_cons, List.drop_zero, List.append_eq, List.cons_append, List.nil_append, List.setIfInBounds_toArray] at hr
      have HSn := Aside0.mk hr
      clear hq hr HSv
      refine hK.out _ _ ⟨fun _ _ => two_ (HSn.out.get 1 rfl), ?_⟩; clear hK K; (try simp only [Act.put, List.getElem_toArray, List.getElem_cons_succ, List.getElem_cons_zero, List.setIfInBounds_toArray, List.set_cons_zero, List.set_cons_succ])
      generalize hgw : wv.heap.size = gz at *
      generalize hww : wv.alloc (.cells #[.int .i64 0, .int .i64 0, .int .i64 0, .int .i64 0, .int .i64 0, .int .i64 0, .int .i64 0, .int .i64 0] 53 (0, 0)) = wv at *
      clear hgw hww
      have HSv := HSn
      clear HSn
      revert HSv; revert hii; revert hh_; revert ii; revert gz; revert gla; revert wv
      exact key9.out
    refine tr_two ?_ ?_
    · skip
      refine tr_step rfl (fun K hK => ?_)
      go_simp
      have hq := new_lit HSv.out (g := wv.heap.size) rfl 3 (#[.int .i64 0, .int .i64 1, .int .i64 5, .int .i64 60000]) (l := [0, 1, 5, 60000]) (n := 4) rfl rfl (by decide)
      have hr := hq.selT 4 [1, 2, 0, 3] (by decide) (by simp <;> omega)
      simp only [List.map_cons, List.map_nil, pick, List.getD_cons_succ, List.getD_cons_zero, List.set_cons_zero, List.set_cons_succ, List.eraseIdx_cons_zero, List.eraseIdx_cons_succ, List.drop_succ_cons, List.drop_zero, List.append_eq, List.cons_append, List.nil_append, List.setIfInBounds_toArray] at hr
      have HSn := Aside0.mk hr
      clear hq hr HSv
      refine hK.out _ _ ⟨fun _ _ => two_ (HSn.out.get 1 rfl), ?_⟩; clear hK K; (try simp only [Act.put, List.getElem_toArray, List.getElem_cons_succ, List.getElem_cons_zero, List.setIfInBounds_toArray, List.set_cons_zero, List.set_cons_succ])
      generalize hgw : wv.heap.size = glb at *
      generalize hww : wv.alloc (.cells #[.int .i64 0, .int .i64 1, .int .i64 5, .int .i64 60000] 3 (0, 0)) = wv at *
      clear hgw hww
      have HSv := HSn
      clear HSn
      refine tr_two ?_ ?_
      · skip
        refine tr_step rfl (fun K hK => ?_)
        go_simp
        go_at_call 129; refine (c_l1Below HSv.out hB hii (by omega)).mono ?_; rintro e wv ⟨xa, ii, hh_, rfl, xa0, xa1, hjj, hs⟩
        have xa2 := xa1 (by omega)
        clear HSv hii xa1
        have hwa : IntKind.i64.wrap (1 + xa) = 1 + xa := by rw [IntKind.wrap_i64]; omega
        have hii := hjj
        have HSv := Aside0.mk hs
        clear hs hjj
        refine hK.out _ _ ⟨fun _ _ => two_ (HSv.out.get 1 rfl), ?_⟩; clear hK K; (try simp only [Act.put, List.getElem_toArray, List.getElem_cons_succ, List.getElem_cons_zero, List.setIfInBounds_toArray, List.set_cons_zero, List.set_cons_succ])
        iterate 1 (refine tr_pure rfl (fun _ _ _ h => h) (by rfl) (fun w_ => by go_simp; first | done | with_reducible rfl) ?_; (try simp only [Act.put, List.getElem_toArray, List.getElem_cons_succ, List.getElem_cons_zero, List.setIfInBounds_toArray, List.set_cons_zero, List.set_cons_succ]))
        revert HSv; revert hii; revert hwa; revert xa2; revert xa0; revert xa; revert hh_; revert ii; revert glb; revert wv
        exact key6.out
      refine tr_two ?_ ?_
      · skip
        refine tr_step rfl (fun K hK => ?_)
        go_simp
        have hq := new_lit HSv.out (g := wv.heap.size) rfl 3 (#[.int .i64 0, .int .i64 1, .int .i64 2, .int .i64 3, .int .i64 60000]) (l := [0, 1, 2, 3, 60000]) (n := 5) rfl rfl (by decide)
        have hr := hq.selT 5 [1, 2, 0, 3, 4] (by decide) (by simp <;> omega)
        simp only [List.map_cons, List.map_nil, pick, List.getD_cons_succ, List.getD_cons_zero, List.set_cons_zero, List.set_cons_succ, List.eraseIdx_cons_zero, List.eraseIdx_cons_succ, List.drop_succ_cons, List.drop_zero, List.append_eq, List.cons_append, List.nil_append, List.setIfInBounds_toArray] at hr
        have HSn := Aside0.mk hr
        clear hq hr HSv
        refine hK.out _ _ ⟨fun _ _ => two_ (HSn.out.get 1 rfl), ?_⟩; clear hK K; (try simp only [Act.put, List.getElem_toArray, List.getElem_cons_succ, List.getElem_cons_zero, List.setIfInBounds_toArray, List.set_cons_zero, List.set_cons_succ])
        generalize hgw : wv.heap.size = gla at *
        generalize hww : wv.alloc (.cells #[.int .i64 0, .int .i64 1, .int .i64 2, .int .i64 3, .int .i64 60000] 3 (0, 0)) = wv at *
        clear hgw hww
        have HSv := HSn
        clear HSn
        revert HSv; revert hii; revert hh_; revert ii; revert glb; revert gla; revert wv
        exact key8.out
      refine tr_step rfl (fun K hK => ?_)
      go_simp
      have hq := HSv.out.alloc (g := wv.heap.size) rfl #[.int .i64 0, .int .i64 0, .int .i64 0, .int .i64 0, .int .i64 0, .int .i64 0, .int .i64 0, .int .i64 0] 53
      have hr := hq.selT 5 [1, 2, 3, 0, 4] (by decide) (by simp <;> omega)
      simp only [List.map_cons, List.map_nil, pick, List.getD_cons_succ, List.getD_cons_zero, List.set_cons_zero, List.set_cons_succ, List.eraseIdx_cons_zero, List.eraseIdx_cons_succ, List.drop_succ_cons, List.drop_zero, List.append_eq, List.cons_append, List.nil_append, List.setIfInBounds_toArray] at hr
      have HSn := Aside0.mk hr
      clear hq hr HSv
      refine hK.out _ _ ⟨fun _ _ => two_ (HSn.out.get 1 rfl), ?_⟩; clear hK K; (try simp only [Act.put, List.getElem_toArray, List.getElem_cons_succ, List.getElem_cons_zero, List.setIfInBounds_toArray, List.set_cons_zero, List.set_cons_succ])
      generalize hgw : wv.heap.size = gz at *
      generalize hww : wv.alloc (.cells #[.int .i64 0, .int .i64 0, .int .i64 0, .int .i64 0, .int .i64 0, .int .i64 0, .int .i64 0, .int .i64 0] 53 (0, 0)) = wv at *
      clear hgw hww
      have HSv := HSn
      clear HSn
      revert HSv; revert hii; revert hh_; revert ii; revert gz; revert glb; revert wv
      exact key10.out
    refine tr_step rfl (fun K hK => ?_)
    go_simp
    have hq := HSv.out.alloc (g := wv.heap.size) rfl #[.int .i64 0, .int .i64 0, .int .i64 0, .int .i64 0, .int .i64 0, .int .i64 0, .int .i64 0, .int .i64 0] 53
    have hr := hq.selT 4 [1, 2, 0, 3] (by decide) (by simp <;> omega)
    simp only [List.map_cons, List.map_nil, pick, List.getD_cons_succ, List.getD_cons_zero, List.set_cons_zero, List.set_cons_succ, List.eraseIdx_cons_zero, List.eraseIdx_cons_succ, List.drop_succ_cons, List.drop_zero, List.append_eq, List.cons_append, List.nil_append, List.setIfInBounds_toArray] at hr
    have HSn := Aside0.mk hr
    clear hq hr HSv
    refine hK.out _ _ ⟨fun _ _ => two_ (HSn.out.get 1 rfl), ?_⟩; clear hK K; (try simp only [Act.put, List.getElem_toArray, List.getElem_cons_succ, List.getElem_cons_zero, List.setIfInBounds_toArray, List.set_cons_zero, List.set_cons_succ])
    generalize hgw : wv.heap.size = gz at *
    generalize hww : wv.alloc (.cells #[.int .i64 0, .int .i64 0, .int .i64 0, .int .i64 0, .int .i64 0, .int .i64 0, .int .i64 0, .int .i64 0] 53 (0, 0)) = wv at *
    clear hgw hww
    have HSv := HSn
    clear HSn
    refine tr_two ?_ ?_
    · skip
      refine tr_step rfl (fun K hK => ?_)
      go_simp
      go_at_call 129; refine (c_l1Below HSv.out hB hii (by omega)).mono ?_; rintro e wv ⟨xa, ii, hh_, rfl, xa0, xa1, hjj, hs⟩
      have xa2 := xa1 (by omega)
      clear HSv hii xa1
      have hwa : IntKind.i64.wrap (1 + xa) = 1 + xa := by rw [IntKind.wrap_i64]; omega
      have hii := hjj
      have HSv := Aside0.mk hs
      clear hs hjj
      refine hK.out _ _ ⟨fun _ _ => two_ (HSv.out.get 1 rfl), ?_⟩; clear hK K; (try simp only [Act.put, List.getElem_toArray, List.getElem_cons_succ, List.getElem_cons_zero, List.setIfInBounds_toArray, List.set_cons_zero, List.set_cons_succ])
      iterate 1 (refine tr_pure rfl (fun _ _ _ h => h) (by rfl) (fun w_ => by go_simp; first | done | with_reducible rfl) ?_; (try simp only [Act.put, List.getElem_toArray, List.getElem_cons_succ, List.getElem_cons_zero, List.setIfInBounds_toArray, List.set_cons_zero, List.set_cons_succ]))
      revert HSv; revert hii; revert hwa; revert xa2; revert xa0; revert xa; revert hh_; revert ii; revert gz; revert wv
      exact key7.out
    refine tr_two ?_ ?_
    · skip
      refine tr_step rfl (fun K hK => ?_)
      go_simp
      have hq := new_lit HSv.out (g := wv.heap.size) rfl 3 (#[.int .i64 0, .int .i64 1, .int .i64 2, .int .i64 3, .int .i64 60000]) (l := [0, 1, 2, 3, 60000]) (n := 5) rfl rfl (by decide)
      have hr := hq.selT 5 [1, 2, 0, 3, 4] (by decide) (by simp <;> omega)
      simp only [List.map_cons, List.map_nil, pick, List.getD_cons_succ, List.getD_cons_zero, List.set_cons_zero, List.set_cons_succ, List.eraseIdx_cons_zero, List.eraseIdx_cons_succ, List.drop_succ_cons, List.drop_zero, List.append_eq, List.cons_append, List.nil_append, List.setIfInBounds_toArray] at hr
      have HSn := Aside0.mk hr
      clear hq hr HSv
      refine hK.out _ _ ⟨fun _ _ => two_ (HSn.out.get 1 rfl), ?_⟩; clear hK K; (try simp only [Act.put, List.getElem_toArray, List.getElem_cons_succ, List.getElem_cons_zero, List.setIfInBounds_toArray, List.set_cons_zero, List.set_cons_succ])
      generalize hgw : wv.heap.size = gla at *
      generalize hww : wv.alloc (.cells #[.int .i64 0, .int .i64 1, .int .i64 2, .int .i64 3, .int .i64 60000] 3 (0, 0)) = wv at *
      clear hgw hww
      have HSv := HSn
      clear HSn
      revert HSv; revert hii; revert hh_; revert ii; revert gz; revert gla; revert wv
      exact key9.out
    refine tr_step rfl (fun K hK => ?_)
    go_simp
    have hq := new_lit HSv.out (g := wv.heap.size) rfl 3 (#[.int .i64 0, .int .i64 1, .int .i64 5, .int .i64 60000]) (l := [0, 1, 5, 60000]) (n := 4) rfl rfl (by decide)
    have hr := hq.selT 5 [1, 2, 0, 3, 4] (by decide) (by simp <;> omega)
    simp only [List.map_cons, List.map_nil, pick, List.getD_cons_succ, List.getD_cons_zero, List.set_cons_zero, List.set_cons_succ, List.eraseIdx_cons_zero, List.eraseIdx_cons_succ, List.drop_succ_cons, List.drop_zero, List.append_eq, List.cons_append, List.nil_append, List.setIfInBounds_toArray] at hr
    have HSn := Aside0.mk hr
    clear hq hr HSv
    refine hK.out _ _ ⟨fun _ _ => two_ (HSn.out.get 1 rfl), ?_⟩; clear hK K; (try simp only [Act.put, List.getElem_toArray, List.getElem_cons_succ, List.getElem_cons_zero, List.setIfInBounds_toArray, List.set_cons_zero, List.set_cons_succ])
    generalize hgw : wv.heap.size = glb at *
    generalize hww : wv.alloc (.cells #[.int .i64 0, .int .i64 1, .int .i64 5, .int .i64 60000] 3 (0, 0)) = wv at *
    clear hgw hww
    have HSv := HSn
    clear HSn
    revert HSv; revert hii; revert hh_; revert ii; revert gz; revert glb; revert wv
    exact key10.out
    intro wv gla ii hh_ xa xa0 xa2 hwa hii HSv
    refine tr_two ?_ ?_
    · skip
      refine tr_step rfl (fun K hK => ?_)
      go_simp
      go_at_call 119; refine (c_l1Int HSv.out hB hii (fun w' hw => O_RK (hw.get 1 rfl)) (by decide)).mono ?_; rintro e wv ⟨xb, ii, hh_, rfl, xb0, hjj, hs⟩
      have xb2 : 0 ≤ xb ∧ xb ≤ 60000 := by simp at xb0; omega
      clear HSv hii xb0
      have hii := hjj
      have HSv := Aside0.mk hs
      clear hs hjj
      refine hK.out _ _ ⟨fun _ _ => two_ (HSv.out.get 1 rfl), ?_⟩; clear hK K; (try simp only [Act.put, List.getElem_toArray, List.getElem_cons_succ, List.getElem_cons_zero, List.setIfInBounds_toArray, List.set_cons_zero, List.set_cons_succ])
      refine tr_two ?_ ?_
      · skip
        refine tr_step rfl (fun K hK => ?_)
        go_simp
        go_at_call 129; refine (c_l1Below HSv.out hB hii (by omega)).mono ?_; rintro e wv ⟨xc, ii, hh_, rfl, xc0, xc1, hjj, hs⟩
        have xc2 := xc1 (by omega)
        clear HSv hii xc1
        have hii := hjj
        have HSv := Aside0.mk hs
        clear hs hjj
        refine hK.out _ _ ⟨fun _ _ => two_ (HSv.out.get 1 rfl), ?_⟩; clear hK K; (try simp only [Act.put, List.getElem_toArray, List.getElem_cons_succ, List.getElem_cons_zero, List.setIfInBounds_toArray, List.set_cons_zero, List.set_cons_succ])
        refine tr_two ?_ ?_
        · skip
          refine tr_step rfl (fun K hK => ?_)
          go_simp
          have hq := new_lit HSv.out (g := wv.heap.size) rfl 3 (#[.int .i64 0, .int .i64 1, .int .i64 5, .int .i64 60000]) (l := [0, 1, 5, 60000]) (n := 4) rfl rfl (by decide)
          have hr := hq.selT 5 [1, 2, 3, 0, 4] (by decide) (by simp <;> omega)
          simp only [List.map_cons, List.map_nil, pick, List.getD_cons_succ, List.getD_cons_zero, List.set_cons_zero, List.set_cons_succ, List.eraseIdx_cons_zero, List.eraseIdx_cons_succ, List.drop_succ_cons, List.drop_zero, List.append_eq, List.cons_append, List.nil_append, List.setIfInBounds_toArray] at hr
          have HSn := Aside0.mk hr
          clear hq hr HSv
          refine hK.out _ _ ⟨fun _ _ => two_ (HSn.out.get 1 rfl), ?_⟩; clear hK K; (try simp only [Act.put, List.getElem_toArray, List.getElem_cons_succ, List.getElem_cons_zero, List.setIfInBounds_toArray, List.set_cons_zero, List.set_cons_succ])
          generalize hgw : wv.heap.size = glb at *
          generalize hww : wv.alloc (.cells #[.int .i64 0, .int .i64 1, .int .i64 5, .int .i64 60000] 3 (0, 0)) = wv at *
          clear hgw hww
          have HSv := HSn
          clear HSn
          revert HSv; revert hii; revert xc2; revert xc0; revert xb2; revert hwa; revert xa2; revert xa0; revert xc; revert xb; revert xa; revert hh_; revert ii; revert glb; revert gla; revert wv
          exact key20.out
        refine tr_step rfl (fun K hK => ?_)
        go_simp
        have hq := HSv.out.alloc (g := wv.heap.size) rfl #[.int .i64 0, .int .i64 0, .int .i64 0, .int .i64 0, .int .i64 0, .int .i64 0, .int .i64 0, .int .i64 0] 53
        have hr := hq.selT 5 [1, 2, 3, 0, 4] (by decide) (by simp <;> omega)
        simp only [List.map_cons, List.map_nil, pick, List.getD_cons_succ, List.getD_cons_zero, List.set_cons_zero, List.set_cons_succ, List.eraseIdx_cons_zero, List.eraseIdx_cons_succ, List.drop_succ_cons, List.drop_zero, List.append_eq, List.cons_append, List.nil_append, List.setIfInBounds_toArray] at hr
        have HSn := Aside0.mk hr
        clear hq hr HSv
        refine hK.out _ _ ⟨fun _ _ => two_ (HSn.out.get 1 rfl), ?_⟩; clear hK K; (try simp only [Act.put, List.getElem_toArray, List.getElem_cons_succ, List.getElem_cons_zero, List.setIfInBounds_toArray, List.set_cons_zero, List.set_cons_succ])
        generalize hgw : wv.heap.size = gz at *
        generalize hww : wv.alloc (.cells #[.int .i64 0, .int .i64 0, .int .i64 0, .int .i64 0, .int .i64 0, .int .i64 0, .int .i64 0, .int .i64 0] 53 (0, 0)) = wv at *
        clear hgw hww
        have HSv := HSn
        clear HSn
        revert HSv; revert hii; revert xc2; revert xc0; revert xb2; revert hwa; revert xa2; revert xa0; revert xc; revert xb; revert xa; revert hh_; revert ii; revert gz; revert gla; revert wv
        exact key21.out
      refine tr_two ?_ ?_
      · skip
        refine tr_step rfl (fun K hK => ?_)
        go_simp
        have hq := new_lit HSv.out (g := wv.heap.size) rfl 3 (#[.int .i64 0, .int .i64 1, .int .i64 5, .int .i64 60000]) (l := [0, 1, 5, 60000]) (n := 4) rfl rfl (by decide)
        have hr := hq.selT 5 [1, 2, 3, 0, 4] (by decide) (by simp <;> omega)
        simp only [List.map_cons, List.map_nil, pick, List.getD_cons_succ, List.getD_cons_zero, List.set_cons_zero, List.set_cons_succ, List.eraseIdx_cons_zero, List.eraseIdx_cons_succ, List.drop_succ_cons, List.drop_zero, List.append_eq, List.cons_append, List.nil_append, List.setIfInBounds_toArray] at hr
        have HSn := Aside0.mk hr
        clear hq hr HSv
        refine hK.out _ _ ⟨fun _ _ => two_ (HSn.out.get 1 rfl), ?_⟩; clear hK K; (try simp only [Act.put, List.getElem_toArray, List.getElem_cons_succ, List.getElem_cons_zero, List.setIfInBounds_toArray, List.set_cons_zero, List.set_cons_succ])
        generalize hgw : wv.heap.size = glb at *
        generalize hww : wv.alloc (.cells #[.int .i64 0, .int .i64 1, .int .i64 5, .int .i64 60000] 3 (0, 0)) = wv at *
        clear hgw hww
        have HSv := HSn
        clear HSn
        revert HSv; revert hii; revert xb2; revert hwa; revert xa2; revert xa0; revert xb; revert xa; revert hh_; revert ii; revert glb; revert gla; revert wv
        exact key17.out
      refine tr_step rfl (fun K hK => ?_)
      go_simp
      have hq := HSv.out.alloc (g := wv.heap.size) rfl #[.int .i64 0, .int .i64 0, .int .i64 0, .int .i64 0, .int .i64 0, .int .i64 0, .int .i64 0, .int .i64 0] 53
      have hr := hq.selT 5 [1, 2, 3, 0, 4] (by decide) (by simp <;> omega)
      simp only [List.map_cons, List.map_nil, pick, List.getD_cons_succ, List.getD_cons_zero, List.set_cons_zero, List.set_cons_succ, List.eraseIdx_cons_zero, List.eraseIdx_cons_succ, List.drop_succ_cons, List.drop_zero, List.append_eq, List.cons_append, List.nil_append, List.setIfInBounds_toArray] at hr
      have HSn := Aside0.mk hr
      clear hq hr HSv
      refine hK.out _ _ ⟨fun _ _ => two_ (HSn.out.get 1 rfl), ?_⟩; clear hK K; (try simp only [Act.put, List.getElem_toArray, List.getElem_cons_succ, List.getElem_cons_zero, List.setIfInBounds_toArray, List.set_cons_zero, List.set_cons_succ])
      generalize hgw : wv.heap.size = gz at *
      generalize hww : wv.alloc (.cells #[.int .i64 0, .int .i64 0, .int .i64 0, .int .i64 0, .int .i64 0, .int .i64 0, .int .i64 0, .int .i64 0] 53 (0, 0)) = wv at *
      clear hgw hww
      have HSv := HSn
      clear HSn
      revert HSv; revert hii; revert xb2; revert hwa; revert xa2; revert xa0; revert xb; revert xa; revert hh_; revert ii; revert gz; revert gla; revert wv
      exact key18.out
    refine tr_two ?_ ?_
    · skip
      refine tr_step rfl (fun K hK => ?_)
      go_simp
      have hq := new_lit HSv.out (g := wv.heap.size) rfl 3 (#[.int .i64 0, .int .i64 1, .int .i64 5, .int .i64 60000]) (l := [0, 1, 5, 60000]) (n := 4) rfl rfl (by decide)
      have hr := hq.selT 5 [1, 2, 3, 0, 4] (by decide) (by simp <;> omega)
      simp only [List.map_cons, List.map_nil, pick, List.getD_cons_succ, List.getD_cons_zero, List.set_cons_zero, List.set_cons_succ, List.eraseIdx_cons_zero, List.eraseIdx_cons_succ, List.drop_succ_cons, List.drop_zero, List.append_eq, List.cons_append, List.nil_append, List.setIfInBounds_toArray] at hr
      have HSn := Aside0.mk hr
      clear hq hr HSv
      refine hK.out _ _ ⟨fun _ _ => two_ (HSn.out.get 1 rfl), ?_⟩; clear hK K; (try simp only [Act.put, List.getElem_toArray, List.getElem_cons_succ, List.getElem_cons_zero, List.setIfInBounds_toArray, List.set_cons_zero, List.set_cons_succ])
      generalize hgw : wv.heap.size = glb at *
      generalize hww : wv.alloc (.cells #[.int .i64 0, .int .i64 1, .int .i64 5, .int .i64 60000] 3 (0, 0)) = wv at *
      clear hgw hww
      have HSv := HSn
      clear HSn
      revert HSv; revert hii; revert hwa; revert xa2; revert xa0; revert xa; revert hh_; revert ii; revert glb; revert gla; revert wv
      exact key12.out
    refine tr_step rfl (fun K hK => ?_)
    go_simp
    have hq := HSv.out.alloc (g := wv.heap.size) rfl #[.int .i64 0, .int .i64 0, .int .i64 0, .int .i64 0, .int .i64 0, .int .i64 0, .int .i64 0, .int .i64 0] 53
    have hr := hq.selT 5 [1, 2, 3, 0, 4] (by decide) (by simp <;> omega)
    simp only [List.map_cons, List.map_nil, pick, List.getD_cons_succ, List.getD_cons_zero, List.set_cons_zero, List.set_cons_succ, List.eraseIdx_cons_zero, List.eraseIdx_cons_succ, List.drop_succ_cons, List.drop_zero, List.append_eq, List.cons_append, List.nil_append, List.setIfInBounds_toArray] at hr
    have HSn := Aside0.mk hr
    clear hq hr HSv
    refine hK.out _ _ ⟨fun _ _ => two_ (HSn.out.get 1 rfl), ?_⟩; clear hK K; (try simp only [Act.put, List.getElem_toArray, List.getElem_cons_succ, List.getElem_cons_zero, List.setIfInBounds_toArray, List.set_cons_zero, List.set_cons_succ])
    generalize hgw : wv.heap.size = gz at *
    generalize hww : wv.alloc (.cells #[.int .i64 0, .int .i64 0, .int .i64 0, .int .i64 0, .int .i64 0, .int .i64 0, .int .i64 0, .int .i64 0] 53 (0, 0)) = wv at *
    clear hgw hww
    have HSv := HSn
    clear HSn
    revert HSv; revert hii; revert hwa; revert xa2; revert xa0; revert xa; revert hh_; revert ii; revert gz; revert gla; revert wv
    exact key13.out
    intro wv glb ii hh_ xa xa0 xa2 hwa hii HSv
    refine tr_two ?_ ?_
    · skip
      refine tr_step rfl (fun K hK => ?_)
      go_simp
      have hq := new_lit HSv.out (g := wv.heap.size) rfl 3 (#[.int .i64 0, .int .i64 1, .int .i64 2, .int .i64 3, .int .i64 60000]) (l := [0, 1, 2, 3, 60000]) (n := 5) rfl rfl (by decide)
      have hr := hq.selT 5 [1, 2, 0, 3, 4] (by decide) (by simp <;> omega)
      simp only [List.map_cons, List.map_nil, pick, List.getD_cons_succ, List.getD_cons_zero, List.set_cons_zero, List.set_cons_succ, List.eraseIdx_cons_zero, List.eraseIdx_cons_succ, List.drop_succ_cons, List.drop_zero, List.append_eq, List.cons_append, List.nil_append, List.setIfInBounds_toArray] at hr
      have HSn := Aside0.mk hr
      clear hq hr HSv
      refine hK.out _ _ ⟨fun _ _ => two_ (HSn.out.get 1 rfl), ?_⟩; clear hK K; (try simp only [Act.put, List.getElem_toArray, List.getElem_cons_succ, List.getElem_cons_zero, List.setIfInBounds_toArray, List.set_cons_zero, List.set_cons_succ])
      generalize hgw : wv.heap.size = gla at *
      generalize hww : wv.alloc (.cells #[.int .i64 0, .int .i64 1, .int .i64 2, .int .i64 3, .int .i64 60000] 3 (0, 0)) = wv at *
      clear hgw hww
      have HSv := HSn
      clear HSn
      revert HSv; revert hii; revert hwa; revert xa2; revert xa0; revert xa; revert hh_; revert ii; revert glb; revert gla; revert wv
      exact key12.out
    refine tr_step rfl (fun K hK => ?_)
    go_simp
    have hq := HSv.out.alloc (g := wv.heap.size) rfl #[.int .i64 0, .int .i64 0, .int .i64 0, .int .i64 0, .int .i64 0, .int .i64 0, .int .i64 0, .int .i64 0] 53
    have hr := hq.selT 5 [1, 2, 3, 0, 4] (by decide) (by simp <;> omega)
    simp only [List.map_cons, List.map_nil, pick, List.getD_cons_succ, List.getD_cons_zero, List.set_cons_zero, List.set_cons_succ, List.eraseIdx_cons_zero, List.eraseIdx_cons_succ, List.drop_succ_cons, List.drop_zero, List.append_eq, List.cons_append, List.nil_append, List.setIfInBounds_toArray] at hr
    have HSn := Aside0.mk hr
    clear hq hr HSv
    refine hK.out _ _ ⟨fun _ _ => two_ (HSn.out.get 1 rfl), ?_⟩; clear hK K; (try simp only [Act.put, List.getElem_toArray, List.getElem_cons_succ, List.getElem_cons_zero, List.setIfInBounds_toArray, List.set_cons_zero, List.set_cons_succ])
    generalize hgw : wv.heap.size = gz at *
    generalize hww : wv.alloc (.cells #[.int .i64 0, .int .i64 0, .int .i64 0, .int .i64 0, .int .i64 0, .int .i64 0, .int .i64 0, .int .i64 0] 53 (0, 0)) = wv at *
    clear hgw hww
    have HSv := HSn
    clear HSn
    revert HSv; revert hii; revert hwa; revert xa2; revert xa0; revert xa; revert hh_; revert ii; revert gz; revert glb; revert wv
    exact key14.out
    intro wv gz ii hh_ xa xa0 xa2 hwa hii HSv
    refine tr_two ?_ ?_
    · skip
      refine tr_step rfl (fun K hK => ?_)
      go_simp
      have hq := new_lit HSv.out (g := wv.heap.size) rfl 3 (#[.int .i64 0, .int .i64 1, .int .i64 2, .int .i64 3, .int .i64 60000]) (l := [0, 1, 2, 3, 60000]) (n := 5) rfl rfl (by decide)
      have hr := hq.selT 5 [1, 2, 0, 3, 4] (by decide) (by simp <;> omega)
      simp only [List.map_cons, List.map_nil, pick, List.getD_cons_succ, List.getD_cons_zero, List.set_cons_zero, List.set_cons_succ, List.eraseIdx_cons_zero, List.eraseIdx_cons_succ, List.drop_succ_cons, List.drop_zero, List.append_eq, List.cons_append, List.nil_append, List.setIfInBounds_toArray] at hr
      have HSn := Aside0.mk hr
      clear hq hr HSv
      refine hK.out _ _ ⟨fun _ _ => two_ (HSn.out.get 1 rfl), ?_⟩; clear hK K; (try simp only [Act.put, List.getElem_toArray, List.getElem_cons_succ, List.getElem_cons_zero, List.setIfInBounds_toArray, List.set_cons_zero, List.set_cons_succ])
      generalize hgw : wv.heap.size = gla at *
      generalize hww : wv.alloc (.cells #[.int .i64 0, .int .i64 1, .int .i64 2, .int .i64 3, .int .i64 60000] 3 (0, 0)) = wv at *
      clear hgw hww
      have HSv := HSn
      clear HSn
      revert HSv; revert hii; revert hwa; revert xa2; revert xa0; revert xa; revert hh_; revert ii; revert gz; revert gla; revert wv
      exact key13.out
    refine tr_step rfl (fun K hK => ?_)
    go_simp
    have hq := new_lit HSv.out (g := wv.heap.size) rfl 3 (#[.int .i64 0, .int .i64 1, .int .i64 5, .int .i64 60000]) (l := [0, 1, 5, 60000]) (n := 4) rfl rfl (by decide)
    have hr := hq.selT 5 [1, 2, 0, 3, 4] (by decide) (by simp <;> omega)
    simp only [List.map_cons, List.map_nil, pick, List.getD_cons_succ, List.getD_cons_zero, List.set_cons_zero, List.set_cons_succ, List.eraseIdx_cons_zero, List.eraseIdx_cons_succ, List.drop_succ_cons, List.drop_zero, List.append_eq, List.cons_append, List.nil_append, List.setIfInBounds_toArray] at hr
    have HSn := Aside0.mk hr
    clear hq hr HSv
    refine hK.out _ _ ⟨fun _ _ => two_ (HSn.out.get 1 rfl), ?_⟩; clear hK K; (try simp only [Act.put, List.getElem_toArray, List.getElem_cons_succ, List.getElem_cons_zero, List.setIfInBounds_toArray, List.set_cons_zero, List.set_cons_succ])
    generalize hgw : wv.heap.size = glb at *
    generalize hww : wv.alloc (.cells #[.int .i64 0, .int .i64 1, .int .i64 5, .int .i64 60000] 3 (0, 0)) = wv at *
    clear hgw hww
    have HSv := HSn
    clear HSn
    revert HSv; revert hii; revert hwa; revert xa2; revert xa0; revert xa; revert hh_; revert ii; revert gz; revert glb; revert wv
    exact key14.out
    intro wv gla glb ii hh_   hii HSv
    refine tr_two ?_ ?_
    · skip
      refine tr_step rfl (fun K hK => ?_)
      go_simp
      go_at_call 129; refine (c_l1Below HSv.out hB hii (by omega)).mono ?_; rintro e wv ⟨xa, ii, hh_, rfl, xa0, xa1, hjj, hs⟩
      have xa2 := xa1 (by omega)
      clear HSv hii xa1
      have hwa : IntKind.i64.wrap (1 + xa) = 1 + xa := by rw [IntKind.wrap_i64]; omega
      have hii := hjj
      have HSv := Aside0.mk hs
      clear hs hjj
      refine hK.out _ _ ⟨fun _ _ => two_ (HSv.out.get 1 rfl), ?_⟩; clear hK K; (try simp only [Act.put, List.getElem_toArray, List.getElem_cons_succ, List.getElem_cons_zero, List.setIfInBounds_toArray, List.set_cons_zero, List.set_cons_succ])
      iterate 1 (refine tr_pure rfl (fun _ _ _ h => h) (by rfl) (fun w_ => by go_simp; first | done | with_reducible rfl) ?_; (try simp only [Act.put, List.getElem_toArray, List.getElem_cons_succ, List.getElem_cons_zero, List.setIfInBounds_toArray, List.set_cons_zero, List.set_cons_succ]))
      revert HSv; revert hii; revert hwa; revert xa2; revert xa0; revert xa; revert hh_; revert ii; revert glb; revert gla; revert wv
      exact key12.out
    refine tr_step rfl (fun K hK => ?_)
    go_simp
    have hq := HSv.out.alloc (g := wv.heap.size) rfl #[.int .i64 0, .int .i64 0, .int .i64 0, .int .i64 0, .int .i64 0, .int .i64 0, .int .i64 0, .int .i64 0] 53
    have hr := hq.selT 6 [1, 2, 3, 4, 0, 5] (by decide) (by simp <;> omega)
    simp only [List.map_cons, List.map_nil, pick, List.getD_cons_succ, List.getD_cons_zero, List.set_cons_zero, List.set_cons_succ, List.eraseIdx_cons_zero, List.eraseIdx_cons_succ, List.drop_succ_cons, List.drop_zero, List.append_eq, List.cons_append, List.nil_append, List.setIfInBounds_toArray] at hr
    have HSn := Aside0.mk hr
    clear hq hr HSv
    refine hK.out _ _ ⟨fun _ _ => two_ (HSn.out.get 1 rfl), ?_⟩; clear hK K; (try simp only [Act.put, List.getElem_toArray, List.getElem_cons_succ, List.getElem_cons_zero, List.setIfInBounds_toArray, List.set_cons_zero, List.set_cons_succ])
    generalize hgw : wv.heap.size = gz at *
    generalize hww : wv.alloc (.cells #[.int .i64 0, .int .i64 0, .int .i64 0, .int .i64 0, .int .i64 0, .int .i64 0, .int .i64 0, .int .i64 0] 53 (0, 0)) = wv at *
    clear hgw hww
    have HSv := HSn
    clear HSn
    revert HSv; revert hii; revert hh_; revert ii; revert gz; revert glb; revert gla; revert wv
    exact key15.out
    intro wv gla gz ii hh_   hii HSv
    refine tr_two ?_ ?_
    · skip
      refine tr_step rfl (fun K hK => ?_)
      go_simp
      go_at_call 129; refine (c_l1Below HSv.out hB hii (by omega)).mono ?_; rintro e wv ⟨xa, ii, hh_, rfl, xa0, xa1, hjj, hs⟩
      have xa2 := xa1 (by omega)
      clear HSv hii xa1
      have hwa : IntKind.i64.wrap (1 + xa) = 1 + xa := by rw [IntKind.wrap_i64]; omega
      have hii := hjj
      have HSv := Aside0.mk hs
      clear hs hjj
      refine hK.out _ _ ⟨fun _ _ => two_ (HSv.out.get 1 rfl), ?_⟩; clear hK K; (try simp only [Act.put, List.getElem_toArray, List.getElem_cons_succ, List.getElem_cons_zero, List.setIfInBounds_toArray, List.set_cons_zero, List.set_cons_succ])
      iterate 1 (refine tr_pure rfl (fun _ _ _ h => h) (by rfl) (fun w_ => by go_simp; first | done | with_reducible rfl) ?_; (try simp only [Act.put, List.getElem_toArray, List.getElem_cons_succ, List.getElem_cons_zero, List.setIfInBounds_toArray, List.set_cons_zero, List.set_cons_succ]))
      revert HSv; revert hii; revert hwa; revert xa2; revert xa0; revert xa; revert hh_; revert ii; revert gz; revert gla; revert wv
      exact key13.out
    refine tr_step rfl (fun K hK => ?_)
    go_simp
    have hq := new_lit HSv.out (g := wv.heap.size) rfl 3 (#[.int .i64 0, .int .i64 1, .int .i64 5, .int .i64 60000]) (l := [0, 1, 5, 60000]) (n := 4) rfl rfl (by decide)
    have hr := hq.selT 6 [1, 2, 3, 0, 4, 5] (by decide) (by simp <;> omega)
    simp only [List.map_cons, List.map_nil, pick, List.getD_cons_succ, List.getD_cons_zero, List.set_cons_zero, List.set_cons_succ, List.eraseIdx_cons_zero, List.eraseIdx_cons_succ, List.drop_succ_cons, List.drop_zero, List.append_eq, List.cons_append, List.nil_append, List.setIfInBounds_toArray] at hr
    have HSn := Aside0.mk hr
    clear hq hr HSv
    refine hK.out _ _ ⟨fun _ _ => two_ (HSn.out.get 1 rfl), ?_⟩; clear hK K; (try simp only [Act.put, List.getElem_toArray, List.getElem_cons_succ, List.getElem_cons_zero, List.setIfInBounds_toArray, List.set_cons_zero, List.set_cons_succ])
    generalize hgw : wv.heap.size = glb at *
    generalize hww : wv.alloc (.cells #[.int .i64 0, .int .i64 1, .int .i64 5, .int .i64 60000] 3 (0, 0)) = wv at *
    clear hgw hww
    have HSv := HSn
    clear HSn
    revert HSv; revert hii; revert hh_; revert ii; revert gz; revert glb; revert gla; revert wv
    exact key15.out
    intro wv glb gz ii hh_   hii HSv
    refine tr_two ?_ ?_
    · skip
      refine tr_step rfl (fun K hK => ?_)
      go_simp
      go_at_call 129; refine (c_l1Below HSv.out hB hii (by omega)).mono ?_; rintro e wv ⟨xa, ii, hh_, rfl, xa0, xa1, hjj, hs⟩
      have xa2 := xa1 (by omega)
      clear HSv hii xa1
      have hwa : IntKind.i64.wrap (1 + xa) = 1 + xa := by rw [IntKind.wrap_i64]; omega
      have hii := hjj
      have HSv := Aside0.mk hs
      clear hs hjj
      refine hK.out _ _ ⟨fun _ _ => two_ (HSv.out.get 1 rfl), ?_⟩; clear hK K; (try simp only [Act.put, List.getElem_toArray, List.getElem_cons_succ, List.getElem_cons_zero, List.setIfInBounds_toArray, List.set_cons_zero, List.set_cons_succ])
      iterate 1 (refine tr_pure rfl (fun _ _ _ h => h) (by rfl) (fun w_ => by go_simp; first | done | with_reducible rfl) ?_; (try simp only [Act.put, List.getElem_toArray, List.getElem_cons_succ, List.getElem_cons_zero, List.setIfInBounds_toArray, List.set_cons_zero, List.set_cons_succ]))
      revert HSv; revert hii; revert hwa; revert xa2; revert xa0; revert xa; revert hh_; revert ii; revert gz; revert glb; revert wv
      exact key14.out
    refine tr_step rfl (fun K hK => ?_)
    go_simp
    have hq := new_lit HSv.out (g := wv.heap.size) rfl 3 (#[.int .i64 0, .int .i64 1, .int .i64 2, .int .i64 3, .int .i64 60000]) (l := [0, 1, 2, 3, 60000]) (n := 5) rfl rfl (by decide)
    have hr := hq.selT 6 [1, 2, 0, 3, 4, 5] (by decide) (by simp <;> omega)
    simp only [List.map_cons, List.map_nil, pick, List.getD_cons_succ, List.getD_cons_zero, List.set_cons_zero, List.set_cons_succ, List.eraseIdx_cons_zero, List.eraseIdx_cons_succ, List.drop_succ_cons, List.drop_zero, List.append_eq, List.cons_append, List.nil_append, List.setIfInBounds_toArray] at hr
    have HSn := Aside0.mk hr
    clear hq hr HSv
    refine hK.out _ _ ⟨fun _ _ => two_ (HSn.out.get 1 rfl), ?_⟩; clear hK K; (try simp only [Act.put, List.getElem_toArray, List.getElem_cons_succ, List.getElem_cons_zero, List.setIfInBounds_toArray, List.set_cons_zero, List.set_cons_succ])
    generalize hgw : wv.heap.size = gla at *
    generalize hww : wv.alloc (.cells #[.int .i64 0, .int .i64 1, .int .i64 2, .int .i64 3, .int .i64 60000] 3 (0, 0)) = wv at *
    clear hgw hww
    have HSv := HSn
    clear HSn
    revert HSv; revert hii; revert hh_; revert ii; revert gz; revert glb; revert gla; revert wv
    exact key15.out
    intro wv gla glb ii hh_ xa xa0 xa2 hwa hii HSv
    refine tr_two ?_ ?_
    · skip
      refine tr_step rfl (fun K hK => ?_)
      go_simp
      go_at_call 119; refine (c_l1Int HSv.out hB hii (fun w' hw => O_RK (hw.get 1 rfl)) (by decide)).mono ?_; rintro e wv ⟨xb, ii, hh_, rfl, xb0, hjj, hs⟩
      have xb2 : 0 ≤ xb ∧ xb ≤ 60000 := by simp at xb0; omega
      clear HSv hii xb0
      have hii := hjj
      have HSv := Aside0.mk hs
      clear hs hjj
      refine hK.out _ _ ⟨fun _ _ => two_ (HSv.out.get 1 rfl), ?_⟩; clear hK K; (try simp only [Act.put, List.getElem_toArray, List.getElem_cons_succ, List.getElem_cons_zero, List.setIfInBounds_toArray, List.set_cons_zero, List.set_cons_succ])
      revert HSv; revert hii; revert xb2; revert hwa; revert xa2; revert xa0; revert xb; revert xa; revert hh_; revert ii; revert glb; revert gla; revert wv
      exact key17.out
    refine tr_step rfl (fun K hK => ?_)
    go_simp
    have hq := HSv.out.alloc (g := wv.heap.size) rfl #[.int .i64 0, .int .i64 0, .int .i64 0, .int .i64 0, .int .i64 0, .int .i64 0, .int .i64 0, .int .i64 0] 53
    have hr := hq.selT 6 [1, 2, 3, 4, 0, 5] (by decide) (by simp <;> omega)
    simp only [List.map_cons, List.map_nil, pick, List.getD_cons_succ, List.getD_cons_zero, List.set_cons_zero, List.set_cons_succ, List.eraseIdx_cons_zero, List.eraseIdx_cons_succ, List.drop_succ_cons, List.drop_zero, List.append_eq, List.cons_append, List.nil_append, List.setIfInBounds_toArray] at hr
    have HSn := Aside0.mk hr
    clear hq hr HSv
    refine hK.out _ _ ⟨fun _ _ => two_ (HSn.out.get 1 rfl), ?_⟩; clear hK K; (try simp only [Act.put, List.getElem_toArray, List.getElem_cons_succ, List.getElem_cons_zero, List.setIfInBounds_toArray, List.set_cons_zero, List.set_cons_succ])
    generalize hgw : wv.heap.size = gz at *
    generalize hww : wv.alloc (.cells #[.int .i64 0, .int .i64 0, .int .i64 0, .int .i64 0, .int .i64 0, .int .i64 0, .int .i64 0, .int .i64 0] 53 (0, 0)) = wv at *
    clear hgw hww
    have HSv := HSn
    clear HSn
    revert HSv; revert hii; revert hwa; revert xa2; revert xa0; revert xa; revert hh_; revert ii; revert gz; revert glb; revert gla; revert wv
    exact key19.out
    intro wv gla gz ii hh_ xa xa0 xa2 hwa hii HSv
    refine tr_two ?_ ?_
    · skip
      refine tr_step rfl (fun K hK => ?_)
      go_simp
      go_at_call 119; refine (c_l1Int HSv.out hB hii (fun w' hw => O_RK (hw.get 1 rfl)) (by decide)).mono ?_; rintro e wv ⟨xb, ii, hh_, rfl, xb0, hjj, hs⟩
      have xb2 : 0 ≤ xb ∧ xb ≤ 60000 := by simp at xb0; omega
      clear HSv hii xb0
      have hii := hjj
      have HSv := Aside0.mk hs
      clear hs hjj
      refine hK.out _ _ ⟨fun _ _ => two_ (HSv.out.get 1 rfl), ?_⟩; clear hK K; (try simp only [Act.put, List.getElem_toArray, List.getElem_cons_succ, List.getElem_cons_zero, List.setIfInBounds_toArray, List.set_cons_zero, List.set_cons_succ])
      revert HSv; revert hii; revert xb2; revert hwa; revert xa2; revert xa0; revert xb; revert xa; revert hh_; revert ii; revert gz; revert gla; revert wv
      exact key18.out
    refine tr_step rfl (fun K hK => ?_)
    go_simp
    have hq := new_lit HSv.out (g := wv.heap.size) rfl 3 (#[.int .i64 0, .int .i64 1, .int .i64 5, .int .i64 60000]) (l := [0, 1, 5, 60000]) (n := 4) rfl rfl (by decide)
    have hr := hq.selT 6 [1, 2, 3, 0, 4, 5] (by decide) (by simp <;> omega)
    simp only [List.map_cons, List.map_nil, pick, List.getD_cons_succ, List.getD_cons_zero, List.set_cons_zero, List.set_cons_succ, List.eraseIdx_cons_zero, List.eraseIdx_cons_succ, List.drop_succ_cons, List.drop_zero, List.append_eq, List.cons_append, List.nil_append, List.setIfInBounds_toArray] at hr
    have HSn := Aside0.mk hr
    clear hq hr HSv
    refine hK.out _ _ ⟨fun _ _ => two_ (HSn.out.get 1 rfl), ?_⟩; clear hK K; (try simp only [Act.put, List.getElem_toArray, List.getElem_cons_succ, List.getElem_cons_zero, List.setIfInBounds_toArray, List.set_cons_zero, List.set_cons_succ])
    generalize hgw : wv.heap.size = glb at *
    generalize hww : wv.alloc (.cells #[.int .i64 0, .int .i64 1, .int .i64 5, .int .i64 60000] 3 (0, 0)) = wv at *
    clear hgw hww
    have HSv := HSn
    clear HSn
    revert HSv; revert hii; revert hwa; revert xa2; revert xa0; revert xa; revert hh_; revert ii; revert gz; revert glb; revert gla; revert wv
    exact key19.out
    intro wv glb gz ii hh_ xa xa0 xa2 hwa hii HSv
    refine tr_step rfl (fun K hK => ?_)
    go_simp
    have hq := new_lit HSv.out (g := wv.heap.size) rfl 3 (#[.int .i64 0, .int .i64 1, .int .i64 2, .int .i64 3, .int .i64 60000]) (l := [0, 1, 2, 3, 60000]) (n := 5) rfl rfl (by decide)
    have hr := hq.selT 6 [1, 2, 0, 3, 4, 5] (by decide) (by simp <;> omega)
    simp only [List.map_cons, List.map_nil, pick, List.getD_cons_succ, List.getD_cons_zero, List.set_cons_zero, List.set_cons_succ, List.eraseIdx_cons_zero, List.eraseIdx_cons_succ, List.drop_succ_cons, List.drop_zero, List.append_eq, List.cons_append, List.nil_append, List.setIfInBounds_toArray] at hr
    have HSn := Aside0.mk hr
    clear hq hr HSv
    refine hK.out _ _ ⟨fun _ _ => two_ (HSn.out.get 1 rfl), ?_⟩; clear hK K; (try simp only [Act.put, List.getElem_toArray, List.getElem_cons_succ, List.getElem_cons_zero, List.setIfInBounds_toArray, List.set_cons_zero, List.set_cons_succ])
    generalize hgw : wv.heap.size = gla at *
    generalize hww : wv.alloc (.cells #[.int .i64 0, .int .i64 1, .int .i64 2, .int .i64 3, .int .i64 60000] 3 (0, 0)) = wv at *
    clear hgw hww
    have HSv := HSn
    clear HSn
    revert HSv; revert hii; revert hwa; revert xa2; revert xa0; revert xa; revert hh_; revert ii; revert gz; revert glb; revert gla; revert wv
    exact key19.out
    intro wv gla glb gz ii hh_   hii HSv
    refine tr_step rfl (fun K hK => ?_)
    go_simp
    go_at_call 129; refine (c_l1Below HSv.out hB hii (by omega)).mono ?_; rintro e wv ⟨xa, ii, hh_, rfl, xa0, xa1, hjj, hs⟩
    have xa2 := xa1 (by omega)
    clear HSv hii xa1
    have hwa : IntKind.i64.wrap (1 + xa) = 1 + xa := by rw [IntKind.wrap_i64]; omega
    have hii := hjj
    have HSv := Aside0.mk hs
    clear hs hjj
    refine hK.out _ _ ⟨fun _ _ => two_ (HSv.out.get 1 rfl), ?_⟩; clear hK K; (try simp only [Act.put, List.getElem_toArray, List.getElem_cons_succ, List.getElem_cons_zero, List.setIfInBounds_toArray, List.set_cons_zero, List.set_cons_succ])
    iterate 1 (refine tr_pure rfl (fun _ _ _ h => h) (by rfl) (fun w_ => by go_simp; first | done | with_reducible rfl) ?_; (try simp only [Act.put, List.getElem_toArray, List.getElem_cons_succ, List.getElem_cons_zero, List.setIfInBounds_toArray, List.set_cons_zero, List.set_cons_succ]))
    revert HSv; revert hii; revert hwa; revert xa2; revert xa0; revert xa; revert hh_; revert ii; revert gz; revert glb; revert gla; revert wv
    exact key19.out
    intro wv gla glb ii hh_ xa xb xa0 xa2 hwa xb2 hii HSv
    refine tr_two ?_ ?_
    · skip
      refine tr_step rfl (fun K hK => ?_)
      go_simp
      go_at_call 129; refine (c_l1Below HSv.out hB hii (by omega)).mono ?_; rintro e wv ⟨xc, ii, hh_, rfl, xc0, xc1, hjj, hs⟩
      have xc2 := xc1 (by omega)
      clear HSv hii xc1
      have hii := hjj
      have HSv := Aside0.mk hs
      clear hs hjj
      refine hK.out _ _ ⟨fun _ _ => two_ (HSv.out.get 1 rfl), ?_⟩; clear hK K; (try simp only [Act.put, List.getElem_toArray, List.getElem_cons_succ, List.getElem_cons_zero, List.setIfInBounds_toArray, List.set_cons_zero, List.set_cons_succ])
      revert HSv; revert hii; revert xc2; revert xc0; revert xb2; revert hwa; revert xa2; revert xa0; revert xc; revert xb; revert xa; revert hh_; revert ii; revert glb; revert gla; revert wv
      exact key20.out
    refine tr_step rfl (fun K hK => ?_)
    go_simp
    have hq := HSv.out.alloc (g := wv.heap.size) rfl #[.int .i64 0, .int .i64 0, .int .i64 0, .int .i64 0, .int .i64 0, .int .i64 0, .int .i64 0, .int .i64 0] 53
    have hr := hq.selT 6 [1, 2, 3, 4, 0, 5] (by decide) (by simp <;> omega)
    simp only [List.map_cons, List.map_nil, pick, List.getD_cons_succ, List.getD_cons_zero, List.set_cons_zero, List.set_cons_succ, List.eraseIdx_cons_zero, List.eraseIdx_cons_succ, List.drop_succ_cons, List.drop_zero, List.append_eq, List.cons_append, List.nil_append, List.setIfInBounds_toArray] at hr
    have HSn := Aside0.mk hr
    clear hq hr HSv
    refine hK.out _ _ ⟨fun _ _ => two_ (HSn.out.get 1 rfl), ?_⟩; clear hK K; (try simp only [Act.put, List.getElem_toArray, List.getElem_cons_succ, List.getElem_cons_zero, List.setIfInBounds_toArray, List.set_cons_zero, List.set_cons_succ])
    generalize hgw : wv.heap.size = gz at *
    generalize hww : wv.alloc (.cells #[.int .i64 0, .int .i64 0, .int .i64 0, .int .i64 0, .int .i64 0, .int .i64 0, .int .i64 0, .int .i64 0] 53 (0, 0)) = wv at *
    clear hgw hww
    have HSv := HSn
    clear HSn
    revert HSv; revert hii; revert xb2; revert hwa; revert xa2; revert xa0; revert xb; revert xa; revert hh_; revert ii; revert gz; revert glb; revert gla; revert wv
    exact key22.out
    intro wv gla gz ii hh_ xa xb xa0 xa2 hwa xb2 hii HSv
    refine tr_two ?_ ?_
    · skip
      refine tr_step rfl (fun K hK => ?_)
      go_simp
      go_at_call 129; refine (c_l1Below HSv.out hB hii (by omega)).mono ?_; rintro e wv ⟨xc, ii, hh_, rfl, xc0, xc1, hjj, hs⟩
      have xc2 := xc1 (by omega)
      clear HSv hii xc1
      have hii := hjj
      have HSv := Aside0.mk hs
      clear hs hjj
      refine hK.out _ _ ⟨fun _ _ => two_ (HSv.out.get 1 rfl), ?_⟩; clear hK K; (try simp only [Act.put, List.getElem_toArray, List.getElem_cons_succ, List.getElem_cons_zero, List.setIfInBounds_toArray, List.set_cons_zero, List.set_cons_succ])
      revert HSv; revert hii; revert xc2; revert xc0; revert xb2; revert hwa; revert xa2; revert xa0; revert xc; revert xb; revert xa; revert hh_; revert ii; revert gz; revert gla; revert wv
      exact key21.out
    refine tr_step rfl (fun K hK => ?_)
    go_simp
    have hq := new_lit HSv.out (g := wv.heap.size) rfl 3 (#[.int .i64 0, .int .i64 1, .int .i64 5, .int .i64 60000]) (l := [0, 1, 5, 60000]) (n := 4) rfl rfl (by decide)
    have hr := hq.selT 6 [1, 2, 3, 0, 4, 5] (by decide) (by simp <;> omega)
    simp only [List.map_cons, List.map_nil, pick, List.getD_cons_succ, List.getD_cons_zero, List.set_cons_zero, List.set_cons_succ, List.eraseIdx_cons_zero, List.eraseIdx_cons_succ, List.drop_succ_cons, List.drop_zero, List.append_eq, List.cons_append, List.nil_append, List.setIfInBounds_toArray] at hr
    have HSn := Aside0.mk hr
    clear hq hr HSv
    refine hK.out _ _ ⟨fun _ _ => two_ (HSn.out.get 1 rfl), ?_⟩; clear hK K; (try simp only [Act.put, List.getElem_toArray, List.getElem_cons_succ, List.getElem_cons_zero, List.setIfInBounds_toArray, List.set_cons_zero, List.set_cons_succ])
    generalize hgw : wv.heap.size = glb at *
    generalize hww : wv.alloc (.cells #[.int .i64 0, .int .i64 1, .int .i64 5, .int .i64 60000] 3 (0, 0)) = wv at *
    clear hgw hww
    have HSv := HSn
    clear HSn
    revert HSv; revert hii; revert xb2; revert hwa; revert xa2; revert xa0; revert xb; revert xa; revert hh_; revert ii; revert gz; revert glb; revert gla; revert wv
    exact key22.out
    intro wv gla glb gz ii hh_ xa xa0 xa2 hwa hii HSv
    refine tr_step rfl (fun K hK => ?_)
    go_simp
    go_at_call 119; refine (c_l1Int HSv.out hB hii (fun w' hw => O_RK (hw.get 1 rfl)) (by decide)).mono ?_; rintro e wv ⟨xb, ii, hh_, rfl, xb0, hjj, hs⟩
    have xb2 : 0 ≤ xb ∧ xb ≤ 60000 := by simp at xb0; omega
    clear HSv hii xb0
    have hii := hjj
    have HSv := Aside0.mk hs
    clear hs hjj
    refine hK.out _ _ ⟨fun _ _ => two_ (HSv.out.get 1 rfl), ?_⟩; clear hK K; (try simp only [Act.put, List.getElem_toArray, List.getElem_cons_succ, List.getElem_cons_zero, List.setIfInBounds_toArray, List.set_cons_zero, List.set_cons_succ])
    revert HSv; revert hii; revert xb2; revert hwa; revert xa2; revert xa0; revert xb; revert xa; revert hh_; revert ii; revert gz; revert glb; revert gla; revert wv
    exact key22.out
    intro wv gla glb ii hh_ xa xb xc xa0 xa2 hwa xb2 xc0 xc2 hii HSv
    refine tr_two ?_ ?_
    · skip
      refine tr_step rfl (fun K hK => ?_)
      go_simp
      go_at_call 119; refine (c_l1Int HSv.out hB hii (fun w' hw => O_RK (hw.get 2 rfl)) (by decide)).mono ?_; rintro e wv ⟨xd, ii, hh_, rfl, xd0, hjj, hs⟩
      have xd2 : 0 ≤ xd ∧ xd ≤ 60000 := by simp at xd0; omega
      clear HSv hii xd0
      have hii := hjj
      have HSv := Aside0.mk hs
      clear hs hjj
      refine hK.out _ _ ⟨fun _ _ => two_ (HSv.out.get 1 rfl), ?_⟩; clear hK K; (try simp only [Act.put, List.getElem_toArray, List.getElem_cons_succ, List.getElem_cons_zero, List.setIfInBounds_toArray, List.set_cons_zero, List.set_cons_succ])
      iterate 1 (refine tr_pure rfl (fun _ _ _ h => h) (by rfl) (fun w_ => by go_simp; first | done | with_reducible rfl) ?_; (try simp only [Act.put, List.getElem_toArray, List.getElem_cons_succ, List.getElem_cons_zero, List.setIfInBounds_toArray, List.set_cons_zero, List.set_cons_succ]))
      refine tr_step rfl (fun K hK => ?_)
      go_simp
      have hq := HSv.out.alloc (g := wv.heap.size) rfl #[.int .i64 0, .int .i64 0, .int .i64 0, .int .i64 0, .int .i64 0, .int .i64 0, .int .i64 0, .int .i64 0] 53
      have hr := hq.selT 6 [1, 2, 3, 4, 0, 5] (by decide) (by simp <;> omega)
      simp only [List.map_cons, List.map_nil, pick, List.getD_cons_succ, List.getD_cons_zero, List.set_cons_zero, List.set_cons_succ, List.eraseIdx_cons_zero, List.eraseIdx_cons_succ, List.drop_succ_cons, List.drop_zero, List.append_eq, List.cons_append, List.nil_append, List.setIfInBounds_toArray] at hr
      have HSn := Aside0.mk hr
      clear hq hr HSv
      refine hK.out _ _ ⟨fun _ _ => two_ (HSn.out.get 1 rfl), ?_⟩; clear hK K; (try simp only [Act.put, List.getElem_toArray, List.getElem_cons_succ, List.getElem_cons_zero, List.setIfInBounds_toArray, List.set_cons_zero, List.set_cons_succ])
      generalize hgw : wv.heap.size = gz at *
      generalize hww : wv.alloc (.cells #[.int .i64 0, .int .i64 0, .int .i64 0, .int .i64 0, .int .i64 0, .int .i64 0, .int .i64 0, .int .i64 0] 53 (0, 0)) = wv at *
      clear hgw hww
      have HSv := HSn
      clear HSn
      revert HSv; revert hii; revert xd2; revert xc2; revert xc0; revert xb2; revert hwa; revert xa2; revert xa0; revert xd; revert xc; revert xb; revert xa; revert hh_; revert ii; revert gz; revert glb; revert gla; revert wv
      exact key25.out
    refine tr_step rfl (fun K hK => ?_)
    go_simp
    have hq := HSv.out.alloc (g := wv.heap.size) rfl #[.int .i64 0, .int .i64 0, .int .i64 0, .int .i64 0, .int .i64 0, .int .i64 0, .int .i64 0, .int .i64 0] 53
    have hr := hq.selT 6 [1, 2, 3, 4, 0, 5] (by decide) (by simp <;> omega)
    simp only [List.map_cons, List.map_nil, pick, List.getD_cons_succ, List.getD_cons_zero, List.set_cons_zero, List.set_cons_succ, List.eraseIdx_cons_zero, List.eraseIdx_cons_succ, List.drop_succ_cons, List.drop_zero, List.append_eq, List.cons_append, List.nil_append, List.setIfInBounds_toArray] at hr
    have HSn := Aside0.mk hr
    clear hq hr HSv
    refine hK.out _ _ ⟨fun _ _ => two_ (HSn.out.get 1 rfl), ?_⟩; clear hK K; (try simp only [Act.put, List.getElem_toArray, List.getElem_cons_succ, List.getElem_cons_zero, List.setIfInBounds_toArray, List.set_cons_zero, List.set_cons_succ])
    generalize hgw : wv.heap.size = gz at *
    generalize hww : wv.alloc (.cells #[.int .i64 0, .int .i64 0, .int .i64 0, .int .i64 0, .int .i64 0, .int .i64 0, .int .i64 0, .int .i64 0] 53 (0, 0)) = wv at *
    clear hgw hww
    have HSv := HSn
    clear HSn
    revert HSv; revert hii; revert xc2; revert xc0; revert xb2; revert hwa; revert xa2; revert xa0; revert xc; revert xb; revert xa; revert hh_; revert ii; revert gz; revert glb; revert gla; revert wv
    exact key24.out
    intro wv gla gz ii hh_ xa xb xc xa0 xa2 hwa xb2 xc0 xc2 hii HSv
    refine tr_step rfl (fun K hK => ?_)
    go_simp
    have hq := new_lit HSv.out (g := wv.heap.size) rfl 3 (#[.int .i64 0, .int .i64 1, .int .i64 5, .int .i64 60000]) (l := [0, 1, 5, 60000]) (n := 4) rfl rfl (by decide)
    have hr := hq.selT 6 [1, 2, 3, 0, 4, 5] (by decide) (by simp <;> omega)
    simp only [List.map_cons, List.map_nil, pick, List.getD_cons_succ, List.getD_cons_zero, List.set_cons_zero, List.set_cons_succ, List.eraseIdx_cons_zero, List.eraseIdx_cons_succ, List.drop_succ_cons, List.drop_zero, List.append_eq, List.cons_append, List.nil_append, List.setIfInBounds_toArray] at hr
    have HSn := Aside0.mk hr
    clear hq hr HSv
    refine hK.out _ _ ⟨fun _ _ => two_ (HSn.out.get 1 rfl), ?_⟩; clear hK K; (try simp only [Act.put, List.getElem_toArray, List.getElem_cons_succ, List.getElem_cons_zero, List.setIfInBounds_toArray, List.set_cons_zero, List.set_cons_succ])
    generalize hgw : wv.heap.size = glb at *
    generalize hww : wv.alloc (.cells #[.int .i64 0, .int .i64 1, .int .i64 5, .int .i64 60000] 3 (0, 0)) = wv at *
    clear hgw hww
    have HSv := HSn
    clear HSn
    revert HSv; revert hii; revert xc2; revert xc0; revert xb2; revert hwa; revert xa2; revert xa0; revert xc; revert xb; revert xa; revert hh_; revert ii; revert gz; revert glb; revert gla; revert wv
    exact key24.out
    intro wv gla glb gz ii hh_ xa xb xa0 xa2 hwa xb2 hii HSv
    refine tr_step rfl (fun K hK => ?_)
    go_simp
    go_at_call 129; refine (c_l1Below HSv.out hB hii (by omega)).mono ?_; rintro e wv ⟨xc, ii, hh_, rfl, xc0, xc1, hjj, hs⟩
    have xc2 := xc1 (by omega)
    clear HSv hii xc1
    have hii := hjj
    have HSv := Aside0.mk hs
    clear hs hjj
    refine hK.out _ _ ⟨fun _ _ => two_ (HSv.out.get 1 rfl), ?_⟩; clear hK K; (try simp only [Act.put, List.getElem_toArray, List.getElem_cons_succ, List.getElem_cons_zero, List.setIfInBounds_toArray, List.set_cons_zero, List.set_cons_succ])
    revert HSv; revert hii; revert xc2; revert xc0; revert xb2; revert hwa; revert xa2; revert xa0; revert xc; revert xb; revert xa; revert hh_; revert ii; revert gz; revert glb; revert gla; revert wv
    exact key24.out
    intro wv gla glb gz ii hh_ xa xb xc xa0 xa2 hwa xb2 xc0 xc2 hii HSv
    refine tr_step rfl (fun K hK => ?_)
    go_simp
    go_at_call 119; refine (c_l1Int HSv.out hB hii (fun w' hw => O_RK (hw.get 2 rfl)) (by decide)).mono ?_; rintro e wv ⟨xd, ii, hh_, rfl, xd0, hjj, hs⟩
    have xd2 : 0 ≤ xd ∧ xd ≤ 60000 := by simp at xd0; omega
    clear HSv hii xd0
    have hii := hjj
    have HSv := Aside0.mk hs
    clear hs hjj
    refine hK.out _ _ ⟨fun _ _ => two_ (HSv.out.get 1 rfl), ?_⟩; clear hK K; (try simp only [Act.put, List.getElem_toArray, List.getElem_cons_succ, List.getElem_cons_zero, List.setIfInBounds_toArray, List.set_cons_zero, List.set_cons_succ])
    iterate 1 (refine tr_pure rfl (fun _ _ _ h => h) (by rfl) (fun w_ => by go_simp; first | done | with_reducible rfl) ?_; (try simp only [Act.put, List.getElem_toArray, List.getElem_cons_succ, List.getElem_cons_zero, List.setIfInBounds_toArray, List.set_cons_zero, List.set_cons_succ]))
    revert HSv; revert hii; revert xd2; revert xc2; revert xc0; revert xb2; revert hwa; revert xa2; revert xa0; revert xd; revert xc; revert xb; revert xa; revert hh_; revert ii; revert gz; revert glb; revert gla; revert wv
    exact key25.out
    intro wv gla glb gz ii hh_ xa xb xc xd xa0 xa2 hwa xb2 xc0 xc2 xd2 hii HSv
    refine tr_step rfl (fun K hK => ?_)
    obtain ⟨z0, z1, z2, z3, z4, z5, z6, z7⟩ := eight (HSv.out.get 4 rfl)
    have fz := blk_frozen (HSv.out.get 4 rfl)
    go_simp
    refine hK.out _ _ ⟨(fun h => (by cases h)), ?_⟩; clear hK K; (try simp only [Act.put, List.getElem_toArray, List.getElem_cons_succ, List.getElem_cons_zero, List.setIfInBounds_toArray, List.set_cons_zero, List.set_cons_succ])
    refine tr_done ?_
    go_wp2_with fail
    go_meet
    have hq := (HSv.out.box8 4 rfl (.int .i64 (1 + xa)) (.int .i64 (xb)) (.int .i64 (xc)) (.int .i64 (N)) (.int .i64 (st)) (.int .i64 (xd)) (.int .i64 (-1)) (.int .i64 (0))).selT 6 [4, 0, 1, 5] (by decide) (by simp <;> omega)
    simp only [List.map_cons, List.map_nil, pick, List.getD_cons_succ, List.getD_cons_zero, List.set_cons_zero, List.set_cons_succ, List.eraseIdx_cons_zero, List.eraseIdx_cons_succ, List.drop_succ_cons, List.drop_zero, List.append_eq, List.cons_append, List.nil_append, List.setIfInBounds_toArray] at hq
    exact ⟨_, 1 + xa, xb, xc, xd, _, _, rfl, ⟨⟨by omega, by omega⟩, xb2, ⟨xc0, xc2⟩, xd2⟩, hii, ⟨hq⟩⟩
  case rest =>
    obtain ⟨gs, id, gen, role, tail, i5, h5, rfl, ⟨⟨a1, a2⟩, b12, r12, t12⟩, hi5, HC⟩ := hcut
    have hq := HC.out.selT 4 [1, 0, 2, 3] (by decide) (by simp <;> omega)
    simp only [List.map_cons, List.map_nil, pick, List.getD_cons_succ, List.getD_cons_zero, List.set_cons_zero, List.set_cons_succ, List.eraseIdx_cons_zero, List.eraseIdx_cons_succ, List.drop_succ_cons, List.drop_zero, List.append_eq, List.cons_append, List.nil_append, List.setIfInBounds_toArray] at hq
    have HC1 := Aside0.mk hq
    clear hq HC HS2
    go_upto_region 3 with fail
    have hw9 : IntKind.i64.wrap (st + 1) = st + 1 := by rw [IntKind.wrap_i64]; omega
    go_cut [26] (fun s26 wx => ∃ (b : Bool) (i6 h6 : Int), s26 = .bool b ∧ (0 ≤ i6 ∧ i6 ≤ bs.length) ∧ Aside0 (Sep w0 [] wx (cur g B i6 h6 :: bx gs 53 #[.int .i64 id, .int .i64 gen, .int .i64 role, .int .i64 N, .int .i64 st, .int .i64 tail, .int .i64 (-1), .int .i64 0] :: bx gG 78 #[.int .i64 N, .int .i64 st] :: bx w.heap.size 53 #[.int .i64 0, .int .i64 0, .int .i64 0, .int .i64 0, .int .i64 0, .int .i64 0, .int .i64 0, .int .i64 0] :: L)))
    case first =>
      go_wp2_with (first
        | (go_at_call 153; refine (c_l1Once HC1.out hB hi5 (by omega)).mono ?_; rintro e w6 ⟨b, i6, h6, rfl, hi6, hs6⟩; have HS6 := Aside0.mk hs6; clear hs6; obtain ⟨k0, k1, k2, k3, k4, k5, k6, k7⟩ := eight (HS6.out.get 1 rfl); obtain ⟨n0, n1⟩ := two_ (HS6.out.get 2 rfl); have fk := blk_frozen (HS6.out.get 1 rfl))
        | fail)
      go_meet
      exact ⟨b, i6, h6, rfl, hi6, HS6⟩
    case' rest => skip
    obtain ⟨b, i6, h6, rfl, hi6, HS6⟩ := hcut
    obtain ⟨k0, k1, k2, k3, k4, k5, k6, k7⟩ := eight (HS6.out.get 1 rfl)
    obtain ⟨n0, n1⟩ := two_ (HS6.out.get 2 rfl)
    have fk := blk_frozen (HS6.out.get 1 rfl)
    clear HC1
    cases b
    · obtain ⟨z0, z1, z2, z3, z4, z5, z6, z7⟩ := eight (HS6.out.get 3 rfl)
      have fz := blk_frozen (HS6.out.get 3 rfl)
      go_wp2
      have HE := HS6.out.box8 3 rfl (.int .i64 id) (.int .i64 gen) (.int .i64 role) (.int .i64 N) (.int .i64 st) (.int .i64 tail) (.int .i64 (-1)) (.int .i64 0)
      simp only [List.map_cons, List.map_nil, pick, List.getD_cons_succ, List.getD_cons_zero, List.set_cons_zero, List.set_cons_succ, List.eraseIdx_cons_zero, List.eraseIdx_cons_succ, List.setIfInBounds_toArray] at HE
      refine bodyPost_ret (results_cell_row rfl _ _ w.heap.size 53 #[.int .i64 id, .int .i64 gen, .int .i64 role, .int .i64 N, .int .i64 st, .int .i64 tail, .int .i64 (-1), .int .i64 0] (0, 0) _ rfl (HE.get 3 rfl) Try.underlying53 rfl (by kernel_rfl)) rfl ?_
      have hB9 := HE.selT 4 [0] (by decide) (by simp <;> omega)
      simp only [List.map_cons, List.map_nil, pick, List.getD_cons_succ, List.getD_cons_zero, List.set_cons_zero, List.set_cons_succ, List.eraseIdx_cons_zero, List.eraseIdx_cons_succ, List.drop_succ_cons, List.drop_zero, List.append_eq, List.cons_append, List.nil_append, List.setIfInBounds_toArray] at hB9
      exact ⟨⟨id, gen, role, N, st, tail, (-1), 0⟩, _, _, rfl, sup_mk ⟨a1, by omega⟩ b12 r12 t12 ⟨hN0, hN1⟩ ⟨hs0, hs1⟩ (.inl ⟨rfl, rfl⟩), hi6, hB9⟩
    · go_upto_region 5 with (first
      | (go_at_call 129; refine (c_l1Below HS6.out hB hi6 (by omega)).mono ?_; rintro e w7 ⟨x, i7, h7, rfl, x0, x1, hi7, hs9⟩; have x2 := x1 (by omega); have HS7 := Aside0.mk hs9; clear hs9 x1 k0 k1 k2 k3 k4 k5 k6 k7 n0 n1 fk; obtain ⟨k0, k1, k2, k3, k4, k5, k6, k7⟩ := eight (HS7.out.get 1 rfl); obtain ⟨n0, n1⟩ := two_ (HS7.out.get 2 rfl); have fk := blk_frozen (HS7.out.get 1 rfl))
      | fail)
      have hB5 := (HS7.out.setb 1 rfl 6 (.int .i64 x) (cs' := #[.int .i64 id, .int .i64 gen, .int .i64 role, .int .i64 N, .int .i64 st, .int .i64 tail, .int .i64 x, .int .i64 0]) rfl)
      simp only [List.map_cons, List.map_nil, pick, List.getD_cons_succ, List.getD_cons_zero, List.set_cons_zero, List.set_cons_succ, List.eraseIdx_cons_zero, List.eraseIdx_cons_succ, List.setIfInBounds_toArray] at hB5
      generalize hwq : World.setCell w7 ⟨gs, 6, none⟩ (.int .i64 x) = w8 at *
      have HS8 := Aside0.mk hB5
      clear hB5 hwq k0 k1 k2 k3 k4 k5 k6 k7 n0 n1 fk
      obtain ⟨k0, k1, k2, k3, k4, k5, k6, k7⟩ := eight (HS8.out.get 1 rfl)
      obtain ⟨n0, n1⟩ := two_ (HS8.out.get 2 rfl)
      have fk := blk_frozen (HS8.out.get 1 rfl)
      go_upto_region 6 with (first
        | (go_at_call 129; refine (c_l1Below HS8.out hB hi7 (by omega)).mono ?_; rintro e w9 ⟨y, i9, h9, rfl, y0, y1, hi9, hs9⟩; have y2 := y1 (by omega); have HS9 := Aside0.mk hs9; clear hs9 y1 k0 k1 k2 k3 k4 k5 k6 k7 n0 n1 fk; obtain ⟨k0, k1, k2, k3, k4, k5, k6, k7⟩ := eight (HS9.out.get 1 rfl); obtain ⟨n0, n1⟩ := two_ (HS9.out.get 2 rfl); have fk := blk_frozen (HS9.out.get 1 rfl))
        | fail)
      have hB5 := HS9.out.setb 1 rfl 7 (.int .i64 y) (cs' := #[.int .i64 id, .int .i64 gen, .int .i64 role, .int .i64 N, .int .i64 st, .int .i64 tail, .int .i64 x, .int .i64 y]) rfl
      simp only [List.map_cons, List.map_nil, pick, List.getD_cons_succ, List.getD_cons_zero, List.set_cons_zero, List.set_cons_succ, List.eraseIdx_cons_zero, List.eraseIdx_cons_succ, List.setIfInBounds_toArray] at hB5
      generalize hwq : World.setCell w9 ⟨gs, 7, none⟩ (.int .i64 y) = w10 at *
      have HS10 := Aside0.mk hB5
      clear hB5 hwq k0 k1 k2 k3 k4 k5 k6 k7 n0 n1 fk
      obtain ⟨k0, k1, k2, k3, k4, k5, k6, k7⟩ := eight (HS10.out.get 1 rfl)
      obtain ⟨z0, z1, z2, z3, z4, z5, z6, z7⟩ := eight (HS10.out.get 3 rfl)
      have fz := blk_frozen (HS10.out.get 3 rfl)
      go_wp2
      have HE := HS10.out.box8 3 rfl (.int .i64 id) (.int .i64 gen) (.int .i64 role) (.int .i64 N) (.int .i64 st) (.int .i64 tail) (.int .i64 x) (.int .i64 y)
      simp only [List.map_cons, List.map_nil, pick, List.getD_cons_succ, List.getD_cons_zero, List.set_cons_zero, List.set_cons_succ, List.eraseIdx_cons_zero, List.eraseIdx_cons_succ, List.setIfInBounds_toArray] at HE
      refine bodyPost_ret (results_cell_row rfl _ _ w.heap.size 53 #[.int .i64 id, .int .i64 gen, .int .i64 role, .int .i64 N, .int .i64 st, .int .i64 tail, .int .i64 x, .int .i64 y] (0, 0) _ rfl (HE.get 3 rfl) Try.underlying53 rfl (by kernel_rfl)) rfl ?_
      have hB9 := HE.selT 4 [0] (by decide) (by simp <;> omega)
      simp only [List.map_cons, List.map_nil, pick, List.getD_cons_succ, List.getD_cons_zero, List.set_cons_zero, List.set_cons_succ, List.eraseIdx_cons_zero, List.eraseIdx_cons_succ, List.drop_succ_cons, List.drop_zero, List.append_eq, List.cons_append, List.nil_append, List.setIfInBounds_toArray] at hB9
      exact ⟨⟨id, gen, role, N, st, tail, x, y⟩, _, _, rfl, sup_mk ⟨a1, by omega⟩ b12 r12 t12 ⟨hN0, hN1⟩ ⟨hs0, hs1⟩ (.inr ⟨x0, x2, y0, by omega⟩), hi9, hB9⟩
end Go.Proofs.Ytlmnmcfieagmbaa.MDraw7
