/- The law FnFalls: it returns true. -/
import Derived.Test.YtlmnmcfieagmbaaMDraw5
import Derived.Test.YtlmnmcfieagmbaaMSame
import Derived.Test.YtlmnmcfieagmbaaMFlush
import Derived.Test.YtlmnmcfieagmbaaPFalls
import Derived.Test.YtlmnmcfieagmbaaMLaw
import Derived.Test.YtlmnmcfieagmbaaRQ
namespace Go.Proofs.Ytlmnmcfieagmbaa.LawFnFalls
open Go.RowKit Go.Proofs.Ytlmnmcfieagmbaa.RJ Go.Proofs.Ytlmnmcfieagmbaa.RP Go.Proofs.Ytlmnmcfieagmbaa.RQ Go.Proofs.YtlmnmcfieagmbaaW.PrintWords Go.Proofs.Ytlmnmcfieagmbaa.Fp Go.Proofs.Ytlmnmcfieagmbaa.FpStep Go.Proofs.Ytlmnmcfieagmbaa.MInt Go.Proofs.Ytlmnmcfieagmbaa.MKinds Go.Proofs.Ytlmnmcfieagmbaa.MRead Go.Proofs.Ytlmnmcfieagmbaa.MMake Go.Proofs.Ytlmnmcfieagmbaa.MPut Go.Proofs.Ytlmnmcfieagmbaa.MOk Go.Proofs.Ytlmnmcfieagmbaa.MVal Go.Proofs.Ytlmnmcfieagmbaa.MValB Go.Proofs.Ytlmnmcfieagmbaa.Sep Go.Proofs.Ytlmnmcfieagmbaa.SepStep Go.Proofs.Ytlmnmcfieagmbaa.MSuper Go.Proofs.Ytlmnmcfieagmbaa.MReadS Go.Proofs.Ytlmnmcfieagmbaa.MDraw Go.Proofs.Ytlmnmcfieagmbaa.MDraw5 Go.Proofs.Ytlmnmcfieagmbaa.MSame Go.Proofs.Ytlmnmcfieagmbaa.MFlush Go.Proofs.Ytlmnmcfieagmbaa.PFalls Go.Proofs.Ytlmnmcfieagmbaa.MLaw
set_option linter.unusedVariables false
set_option linter.unusedSimpArgs false
attribute [local go_sem ↓] Go.wp_at_zero Go.wp_at_succ
theorem any_take {f : (Int × List Int) → Bool} {l : List (Int × List Int)} {k : Nat} {e : Int × List Int} (h : l[k]? = some e) (b : Bool) : (b || (l.take (k + 1)).any f) = ((b || (l.take k).any f) || f e) := by
  rw [take_snoc h, List.any_append]
  simp [Bool.or_assoc]
set_option maxHeartbeats 8000000 in
set_option maxRecDepth 100000 in
theorem law_FnFalls {w : World} {B : Value} {bs : List Int} (hB : RK (Kd.int .u8) w B bs) : Calls Try.prog 8 #[B] w fun e w' => e = .returned (.bool true) ∧ Below w.heap.size w w' := by
  have HC := Aside0.mk hB
  have lx := RK_len hB
  obtain ⟨BA, Bc, rfl, _, _⟩ := hB
  by_cases hl0 : (1048576 : Int) < (bs.length : Int)
  · go_enter Try.func8, Try.ntmps8
    go_wp2_with (first | (go_at_call 18; refine (c_big HC.out).mono ?_; rw [decide_eq_true hl0]; rintro e w1 ⟨rfl, hb⟩; have HS1 := Aside0.mk ((Sep.start w []).dr hb); clear hb) | fail)
    go_ret
    exact ⟨rfl, HS1.out.toBelow⟩
  have hl : bs.length ≤ 16777216 := by omega
  go_enter Try.func8, Try.ntmps8
  go_upto_region 3 with (first | (go_at_call 18; refine (c_big HC.out).mono ?_; rw [decide_eq_false hl0]; rintro e w1 ⟨rfl, hb⟩; have HS1 := Aside0.mk ((Sep.start w []).dr hb); clear hb) | fail)
  clear hl0
  go_upto_region 4 with (first
    | (go_at_call 54; refine (c_DrawMem (HS1.out.rk HC.out) hl).mono ?_; rintro e w2 ⟨um, Fm, m, rfl, hm, hs⟩; obtain ⟨A1, Ad1, A2, Ad2, A3, Ad3, rfl⟩ := me_form hs; have hq := Sep.comp HS1.out hs; simp only [List.cons_append, List.nil_append] at hq; have HM := Aside0.mk hm; have HS2 := Aside0.mk hq; clear hs hm hq)
    | fail)
  have hB := HS2.out.alloc (g := w2.heap.size) rfl #[.slice A1 m.secs.length Ad1, .slice A2 m.cache.length Ad2, .bool m.failed, .slice A3 m.bad.length Ad3] 30
  generalize hgg : w2.heap.size = g3 at *
  generalize hww : w2.alloc (.cells #[.slice A1 m.secs.length Ad1, .slice A2 m.cache.length Ad2, .bool m.failed, .slice A3 m.bad.length Ad3] 30 (0, 0)) = w3 at *
  have HS3 := Aside0.mk (hB)
  clear hB hgg hww
  clear HS2 HS1
  obtain ⟨bm_0, bm_1, bm_2, bm_3⟩ := four (HS3.out.get 0 rfl)
  go_cut [4] (fun s4 wx => ∃ (g : Nat) (F : List Nat) (z : Int) (X1 : Option Addr) (Xd1 : Nat) (X2 : Option Addr) (Xd2 : Nat) (X3 : Option Addr) (Xd3 : Nat), s4 = .pointer (some ⟨g, 0, none⟩) ∧ Aside0 (Sep w [] wx [bx g 30 #[.slice X1 (fallV m z).secs.length Xd1, .slice X2 (fallV m z).cache.length Xd2, .bool (fallV m z).failed, .slice X3 (fallV m z).bad.length Xd3], me F (.agg #[.slice X1 (fallV m z).secs.length Xd1, .slice X2 (fallV m z).cache.length Xd2, .bool (fallV m z).failed, .slice X3 (fallV m z).bad.length Xd3]) (fallV m z), bx g3 30 #[.slice A1 m.secs.length Ad1, .slice A2 m.cache.length Ad2, .bool m.failed, .slice A3 m.bad.length Ad3], me Fm (.agg #[.slice A1 m.secs.length Ad1, .slice A2 m.cache.length Ad2, .bool m.failed, .slice A3 m.bad.length Ad3]) m]))
  case first =>
    refine wp_region_tr (fun w' => w'.cell? ⟨g3, 0, none⟩ = some (.slice A1 m.secs.length Ad1) ∧ w'.cell? ⟨g3, 1, none⟩ = some (.slice A2 m.cache.length Ad2) ∧ w'.cell? ⟨g3, 2, none⟩ = some (.bool m.failed) ∧ w'.cell? ⟨g3, 3, none⟩ = some (.slice A3 m.bad.length Ad3)) [9] (Tr.p 1 (Tr.p 4 (Tr.t 0 (Tr.two 2 (Tr.p 3 (Tr.two 5 (Tr.p 6 (Tr.two 7 (Tr.s 8 (Tr.s 9 (Tr.nil))) 8 (Tr.s 7 (Tr.s 9 (Tr.nil))))) 8 (Tr.s 5 (Tr.p 6 (Tr.s 7 (Tr.s 9 (Tr.nil))))))) 8 (Tr.s 2 (Tr.p 3 (Tr.s 5 (Tr.p 6 (Tr.s 7 (Tr.s 9 (Tr.nil))))))))))) (by kernel_rfl) (by kernel_rfl) ?_
    have hS : (fun w' : World => w'.cell? ⟨g3, 0, none⟩ = some (.slice A1 m.secs.length Ad1) ∧ w'.cell? ⟨g3, 1, none⟩ = some (.slice A2 m.cache.length Ad2) ∧ w'.cell? ⟨g3, 2, none⟩ = some (.bool m.failed) ∧ w'.cell? ⟨g3, 3, none⟩ = some (.slice A3 m.bad.length Ad3)) w3.drew := ⟨bm_0, bm_1, bm_2, bm_3⟩
    iterate 2 (refine tr_pure rfl (fun _ _ _ h => h) (by rfl) (fun w_ => by go_simp; first | done | with_reducible rfl) ?_; (try simp only [Act.put, List.getElem_toArray, List.getElem_cons_succ, List.getElem_cons_zero, List.setIfInBounds_toArray, List.set_cons_zero, List.set_cons_succ]))
    iterate 1 (refine tr_take hS rfl (fun _ _ _ h => h) (by rfl) (fun w_ hSw => by (try dsimp only at hSw); go_simp; first | done | with_reducible rfl) ?_; (try simp only [Act.put, List.getElem_toArray, List.getElem_cons_succ, List.getElem_cons_zero, List.setIfInBounds_toArray, List.set_cons_zero, List.set_cons_succ]))
    have HS9 := Aside0.mk HS3.out.drew
    clear bm_0 bm_1 bm_2 bm_3
    refine tr_two ?_ ?_
    · skip
      refine tr_step rfl (fun K hK => ?_)
      go_simp
      go_at_call 55; refine (c_at (HS9.out.rk HC.out) 2 (by decide)).mono ?_; rintro e w10 ⟨⟨x2, rfl⟩, hb⟩; have HS10 := Aside0.mk (HS9.out.dr hb); clear hb
      clear hS
      obtain ⟨y0, y1, y2, y3⟩ := four (HS10.out.get 0 rfl)
      have hS : (fun w' : World => w'.cell? ⟨g3, 0, none⟩ = some (.slice A1 m.secs.length Ad1) ∧ w'.cell? ⟨g3, 1, none⟩ = some (.slice A2 m.cache.length Ad2) ∧ w'.cell? ⟨g3, 2, none⟩ = some (.bool m.failed) ∧ w'.cell? ⟨g3, 3, none⟩ = some (.slice A3 m.bad.length Ad3)) w10 := ⟨y0, y1, y2, y3⟩
      clear y0 y1 y2 y3
      refine hK.out _ _ ⟨fun _ _ => hS, ?_⟩; clear hK K; (try simp only [Act.put, List.getElem_toArray, List.getElem_cons_succ, List.getElem_cons_zero, List.setIfInBounds_toArray, List.set_cons_zero, List.set_cons_succ])
      iterate 1 (refine tr_pure rfl (fun _ _ _ h => h) (by rfl) (fun w_ => by go_simp; first | done | with_reducible rfl) ?_; (try simp only [Act.put, List.getElem_toArray, List.getElem_cons_succ, List.getElem_cons_zero, List.setIfInBounds_toArray, List.set_cons_zero, List.set_cons_succ]))
      refine tr_two ?_ ?_
      · skip
        refine tr_step rfl (fun K hK => ?_)
        go_simp
        go_at_call 55; refine (c_at (HS10.out.rk HC.out) 3 (by decide)).mono ?_; rintro e w11 ⟨⟨x3, rfl⟩, hb⟩; have HS11 := Aside0.mk (HS10.out.dr hb); clear hb
        clear hS
        obtain ⟨y0, y1, y2, y3⟩ := four (HS11.out.get 0 rfl)
        have hS : (fun w' : World => w'.cell? ⟨g3, 0, none⟩ = some (.slice A1 m.secs.length Ad1) ∧ w'.cell? ⟨g3, 1, none⟩ = some (.slice A2 m.cache.length Ad2) ∧ w'.cell? ⟨g3, 2, none⟩ = some (.bool m.failed) ∧ w'.cell? ⟨g3, 3, none⟩ = some (.slice A3 m.bad.length Ad3)) w11 := ⟨y0, y1, y2, y3⟩
        clear y0 y1 y2 y3
        refine hK.out _ _ ⟨fun _ _ => hS, ?_⟩; clear hK K; (try simp only [Act.put, List.getElem_toArray, List.getElem_cons_succ, List.getElem_cons_zero, List.setIfInBounds_toArray, List.set_cons_zero, List.set_cons_succ])
        iterate 1 (refine tr_pure rfl (fun _ _ _ h => h) (by rfl) (fun w_ => by go_simp; first | done | with_reducible rfl) ?_; (try simp only [Act.put, List.getElem_toArray, List.getElem_cons_succ, List.getElem_cons_zero, List.setIfInBounds_toArray, List.set_cons_zero, List.set_cons_succ]))
        refine tr_two ?_ ?_
        · skip
          refine tr_step rfl (fun K hK => ?_)
          go_simp
          go_at_call 32; refine (c_implFallMem (MemO_R (HS11.out.get 1 rfl)) (memB_small HM.out.1)).mono ?_; rintro e w12 ⟨u, F, rfl, hn⟩; have hq := HS11.out.new hn; clear hn; obtain ⟨X1, Xd1, X2, Xd2, X3, Xd3, rfl⟩ := me_form hq; have HS12 := Aside0.mk hq; clear hq
          clear hS
          obtain ⟨y0, y1, y2, y3⟩ := four (HS12.out.get 1 rfl)
          have hS : (fun w' : World => w'.cell? ⟨g3, 0, none⟩ = some (.slice A1 m.secs.length Ad1) ∧ w'.cell? ⟨g3, 1, none⟩ = some (.slice A2 m.cache.length Ad2) ∧ w'.cell? ⟨g3, 2, none⟩ = some (.bool m.failed) ∧ w'.cell? ⟨g3, 3, none⟩ = some (.slice A3 m.bad.length Ad3)) w12 := ⟨y0, y1, y2, y3⟩
          clear y0 y1 y2 y3
          refine hK.out _ _ ⟨fun _ _ => hS, ?_⟩; clear hK K; (try simp only [Act.put, List.getElem_toArray, List.getElem_cons_succ, List.getElem_cons_zero, List.setIfInBounds_toArray, List.set_cons_zero, List.set_cons_succ])
          refine tr_step rfl (fun K hK => ?_)
          go_simp
          have HS13 := Aside0.mk (HS12.out.alloc (g := w12.heap.size) rfl #[.slice none 0 0, .slice none 0 0, .bool false, .slice none 0 0] 30)
          obtain ⟨y0, y1, y2, y3⟩ := four (HS13.out.get 2 rfl)
          refine hK.out _ _ ⟨fun _ _ => ⟨y0, y1, y2, y3⟩, ?_⟩; clear hK K; (try simp only [Act.put, List.getElem_toArray, List.getElem_cons_succ, List.getElem_cons_zero, List.setIfInBounds_toArray, List.set_cons_zero, List.set_cons_succ])
          clear y0 y1 y2 y3
          refine tr_step rfl (fun K hK => ?_)
          clear hS
          go_simp
          refine hK.out _ _ ⟨(fun h => (by cases h)), ?_⟩; clear hK K; (try simp only [Act.put, List.getElem_toArray, List.getElem_cons_succ, List.getElem_cons_zero, List.setIfInBounds_toArray, List.set_cons_zero, List.set_cons_succ])
          refine tr_done ?_
          go_wp2_with fail
          go_meet
          exact ⟨_, F, _, X1, Xd1, X2, Xd2, X3, Xd3, rfl, ⟨(HS12.out.alloc (g := _) rfl #[.slice X1 (fallV m _).secs.length Xd1, .slice X2 (fallV m _).cache.length Xd2, .bool (fallV m _).failed, .slice X3 (fallV m _).bad.length Xd3] 30).sel [0, 1, 2, 3] (by decide) (by simp)⟩⟩
        · skip
          refine tr_step rfl (fun K hK => ?_)
          go_simp
          have HS12 := Aside0.mk (HS11.out.alloc (g := w11.heap.size) rfl #[.slice none 0 0, .slice none 0 0, .bool false, .slice none 0 0] 30)
          obtain ⟨y0, y1, y2, y3⟩ := four (HS12.out.get 1 rfl)
          refine hK.out _ _ ⟨fun _ _ => ⟨y0, y1, y2, y3⟩, ?_⟩; clear hK K; (try simp only [Act.put, List.getElem_toArray, List.getElem_cons_succ, List.getElem_cons_zero, List.setIfInBounds_toArray, List.set_cons_zero, List.set_cons_succ])
          clear y0 y1 y2 y3
          clear hS
          obtain ⟨y0, y1, y2, y3⟩ := four (HS12.out.get 1 rfl)
          have hS : (fun w' : World => w'.cell? ⟨g3, 0, none⟩ = some (.slice A1 m.secs.length Ad1) ∧ w'.cell? ⟨g3, 1, none⟩ = some (.slice A2 m.cache.length Ad2) ∧ w'.cell? ⟨g3, 2, none⟩ = some (.bool m.failed) ∧ w'.cell? ⟨g3, 3, none⟩ = some (.slice A3 m.bad.length Ad3)) (w11.alloc (.cells #[.slice none 0 0, .slice none 0 0, .bool false, .slice none 0 0] 30)) := ⟨y0, y1, y2, y3⟩
          clear y0 y1 y2 y3
          refine tr_step rfl (fun K hK => ?_)
          go_simp
          go_at_call 32; refine (c_implFallMem (MemO_R (HS12.out.get 2 rfl)) (memB_small HM.out.1)).mono ?_; rintro e w13 ⟨u, F, rfl, hn⟩; have hq := HS12.out.new hn; clear hn; obtain ⟨X1, Xd1, X2, Xd2, X3, Xd3, rfl⟩ := me_form hq; have HS13 := Aside0.mk hq; clear hq
          clear hS
          obtain ⟨y0, y1, y2, y3⟩ := four (HS13.out.get 2 rfl)
          have hS : (fun w' : World => w'.cell? ⟨g3, 0, none⟩ = some (.slice A1 m.secs.length Ad1) ∧ w'.cell? ⟨g3, 1, none⟩ = some (.slice A2 m.cache.length Ad2) ∧ w'.cell? ⟨g3, 2, none⟩ = some (.bool m.failed) ∧ w'.cell? ⟨g3, 3, none⟩ = some (.slice A3 m.bad.length Ad3)) w13 := ⟨y0, y1, y2, y3⟩
          clear y0 y1 y2 y3
          refine hK.out _ _ ⟨fun _ _ => hS, ?_⟩; clear hK K; (try simp only [Act.put, List.getElem_toArray, List.getElem_cons_succ, List.getElem_cons_zero, List.setIfInBounds_toArray, List.set_cons_zero, List.set_cons_succ])
          refine tr_step rfl (fun K hK => ?_)
          obtain ⟨z0, z1, z2, z3⟩ := four (HS13.out.get 1 rfl)
          have fz := blk_frozen (HS13.out.get 1 rfl)
          clear hS
          go_simp
          refine hK.out _ _ ⟨(fun h => (by cases h)), ?_⟩; clear hK K; (try simp only [Act.put, List.getElem_toArray, List.getElem_cons_succ, List.getElem_cons_zero, List.setIfInBounds_toArray, List.set_cons_zero, List.set_cons_succ])
          refine tr_done ?_
          go_wp2_with fail
          go_meet
          exact ⟨_, F, _, X1, Xd1, X2, Xd2, X3, Xd3, rfl, ⟨(HS13.out.box4 1 rfl (.slice X1 (fallV m _).secs.length Xd1) (.slice X2 (fallV m _).cache.length Xd2) (.bool (fallV m _).failed) (.slice X3 (fallV m _).bad.length Xd3)).sel [1, 0, 2, 3] (by decide) (by simp)⟩⟩
      · skip
        refine tr_step rfl (fun K hK => ?_)
        go_simp
        have HS11 := Aside0.mk (HS10.out.alloc (g := w10.heap.size) rfl #[.slice none 0 0, .slice none 0 0, .bool false, .slice none 0 0] 30)
        obtain ⟨y0, y1, y2, y3⟩ := four (HS11.out.get 1 rfl)
        refine hK.out _ _ ⟨fun _ _ => ⟨y0, y1, y2, y3⟩, ?_⟩; clear hK K; (try simp only [Act.put, List.getElem_toArray, List.getElem_cons_succ, List.getElem_cons_zero, List.setIfInBounds_toArray, List.set_cons_zero, List.set_cons_succ])
        clear y0 y1 y2 y3
        clear hS
        obtain ⟨y0, y1, y2, y3⟩ := four (HS11.out.get 1 rfl)
        have hS : (fun w' : World => w'.cell? ⟨g3, 0, none⟩ = some (.slice A1 m.secs.length Ad1) ∧ w'.cell? ⟨g3, 1, none⟩ = some (.slice A2 m.cache.length Ad2) ∧ w'.cell? ⟨g3, 2, none⟩ = some (.bool m.failed) ∧ w'.cell? ⟨g3, 3, none⟩ = some (.slice A3 m.bad.length Ad3)) (w10.alloc (.cells #[.slice none 0 0, .slice none 0 0, .bool false, .slice none 0 0] 30)) := ⟨y0, y1, y2, y3⟩
        clear y0 y1 y2 y3
        refine tr_step rfl (fun K hK => ?_)
        go_simp
        go_at_call 55; refine (c_at (HS11.out.rk HC.out) 3 (by decide)).mono ?_; rintro e w12 ⟨⟨x3, rfl⟩, hb⟩; have HS12 := Aside0.mk (HS11.out.dr hb); clear hb
        clear hS
        obtain ⟨y0, y1, y2, y3⟩ := four (HS12.out.get 1 rfl)
        have hS : (fun w' : World => w'.cell? ⟨g3, 0, none⟩ = some (.slice A1 m.secs.length Ad1) ∧ w'.cell? ⟨g3, 1, none⟩ = some (.slice A2 m.cache.length Ad2) ∧ w'.cell? ⟨g3, 2, none⟩ = some (.bool m.failed) ∧ w'.cell? ⟨g3, 3, none⟩ = some (.slice A3 m.bad.length Ad3)) w12 := ⟨y0, y1, y2, y3⟩
        clear y0 y1 y2 y3
        refine hK.out _ _ ⟨fun _ _ => hS, ?_⟩; clear hK K; (try simp only [Act.put, List.getElem_toArray, List.getElem_cons_succ, List.getElem_cons_zero, List.setIfInBounds_toArray, List.set_cons_zero, List.set_cons_succ])
        iterate 1 (refine tr_pure rfl (fun _ _ _ h => h) (by rfl) (fun w_ => by go_simp; first | done | with_reducible rfl) ?_; (try simp only [Act.put, List.getElem_toArray, List.getElem_cons_succ, List.getElem_cons_zero, List.setIfInBounds_toArray, List.set_cons_zero, List.set_cons_succ]))
        refine tr_step rfl (fun K hK => ?_)
        go_simp
        go_at_call 32; refine (c_implFallMem (MemO_R (HS12.out.get 2 rfl)) (memB_small HM.out.1)).mono ?_; rintro e w13 ⟨u, F, rfl, hn⟩; have hq := HS12.out.new hn; clear hn; obtain ⟨X1, Xd1, X2, Xd2, X3, Xd3, rfl⟩ := me_form hq; have HS13 := Aside0.mk hq; clear hq
        clear hS
        obtain ⟨y0, y1, y2, y3⟩ := four (HS13.out.get 2 rfl)
        have hS : (fun w' : World => w'.cell? ⟨g3, 0, none⟩ = some (.slice A1 m.secs.length Ad1) ∧ w'.cell? ⟨g3, 1, none⟩ = some (.slice A2 m.cache.length Ad2) ∧ w'.cell? ⟨g3, 2, none⟩ = some (.bool m.failed) ∧ w'.cell? ⟨g3, 3, none⟩ = some (.slice A3 m.bad.length Ad3)) w13 := ⟨y0, y1, y2, y3⟩
        clear y0 y1 y2 y3
        refine hK.out _ _ ⟨fun _ _ => hS, ?_⟩; clear hK K; (try simp only [Act.put, List.getElem_toArray, List.getElem_cons_succ, List.getElem_cons_zero, List.setIfInBounds_toArray, List.set_cons_zero, List.set_cons_succ])
        refine tr_step rfl (fun K hK => ?_)
        obtain ⟨z0, z1, z2, z3⟩ := four (HS13.out.get 1 rfl)
        have fz := blk_frozen (HS13.out.get 1 rfl)
        clear hS
        go_simp
        refine hK.out _ _ ⟨(fun h => (by cases h)), ?_⟩; clear hK K; (try simp only [Act.put, List.getElem_toArray, List.getElem_cons_succ, List.getElem_cons_zero, List.setIfInBounds_toArray, List.set_cons_zero, List.set_cons_succ])
        refine tr_done ?_
        go_wp2_with fail
        go_meet
        exact ⟨_, F, _, X1, Xd1, X2, Xd2, X3, Xd3, rfl, ⟨(HS13.out.box4 1 rfl (.slice X1 (fallV m _).secs.length Xd1) (.slice X2 (fallV m _).cache.length Xd2) (.bool (fallV m _).failed) (.slice X3 (fallV m _).bad.length Xd3)).sel [1, 0, 2, 3] (by decide) (by simp)⟩⟩
    · skip
      refine tr_step rfl (fun K hK => ?_)
      go_simp
      have HS10 := Aside0.mk (HS9.out.alloc (g := w3.heap.size) rfl #[.slice none 0 0, .slice none 0 0, .bool false, .slice none 0 0] 30)
      obtain ⟨y0, y1, y2, y3⟩ := four (HS10.out.get 1 rfl)
      refine hK.out _ _ ⟨fun _ _ => ⟨y0, y1, y2, y3⟩, ?_⟩; clear hK K; (try simp only [Act.put, List.getElem_toArray, List.getElem_cons_succ, List.getElem_cons_zero, List.setIfInBounds_toArray, List.set_cons_zero, List.set_cons_succ])
      clear y0 y1 y2 y3
      clear hS
      obtain ⟨y0, y1, y2, y3⟩ := four (HS10.out.get 1 rfl)
      have hS : (fun w' : World => w'.cell? ⟨g3, 0, none⟩ = some (.slice A1 m.secs.length Ad1) ∧ w'.cell? ⟨g3, 1, none⟩ = some (.slice A2 m.cache.length Ad2) ∧ w'.cell? ⟨g3, 2, none⟩ = some (.bool m.failed) ∧ w'.cell? ⟨g3, 3, none⟩ = some (.slice A3 m.bad.length Ad3)) (w3.drew.alloc (.cells #[.slice none 0 0, .slice none 0 0, .bool false, .slice none 0 0] 30)) := ⟨y0, y1, y2, y3⟩
      clear y0 y1 y2 y3
      refine tr_step rfl (fun K hK => ?_)
      go_simp
      go_at_call 55; refine (c_at (HS10.out.rk HC.out) 2 (by decide)).mono ?_; rintro e w11 ⟨⟨x2, rfl⟩, hb⟩; have HS11 := Aside0.mk (HS10.out.dr hb); clear hb
      clear hS
      obtain ⟨y0, y1, y2, y3⟩ := four (HS11.out.get 1 rfl)
      have hS : (fun w' : World => w'.cell? ⟨g3, 0, none⟩ = some (.slice A1 m.secs.length Ad1) ∧ w'.cell? ⟨g3, 1, none⟩ = some (.slice A2 m.cache.length Ad2) ∧ w'.cell? ⟨g3, 2, none⟩ = some (.bool m.failed) ∧ w'.cell? ⟨g3, 3, none⟩ = some (.slice A3 m.bad.length Ad3)) w11 := ⟨y0, y1, y2, y3⟩
      clear y0 y1 y2 y3
      refine hK.out _ _ ⟨fun _ _ => hS, ?_⟩; clear hK K; (try simp only [Act.put, List.getElem_toArray, List.getElem_cons_succ, List.getElem_cons_zero, List.setIfInBounds_toArray, List.set_cons_zero, List.set_cons_succ])
      iterate 1 (refine tr_pure rfl (fun _ _ _ h => h) (by rfl) (fun w_ => by go_simp; first | done | with_reducible rfl) ?_; (try simp only [Act.put, List.getElem_toArray, List.getElem_cons_succ, List.getElem_cons_zero, List.setIfInBounds_toArray, List.set_cons_zero, List.set_cons_succ]))
      refine tr_step rfl (fun K hK => ?_)
      go_simp
      go_at_call 55; refine (c_at (HS11.out.rk HC.out) 3 (by decide)).mono ?_; rintro e w12 ⟨⟨x3, rfl⟩, hb⟩; have HS12 := Aside0.mk (HS11.out.dr hb); clear hb
      clear hS
      obtain ⟨y0, y1, y2, y3⟩ := four (HS12.out.get 1 rfl)
      have hS : (fun w' : World => w'.cell? ⟨g3, 0, none⟩ = some (.slice A1 m.secs.length Ad1) ∧ w'.cell? ⟨g3, 1, none⟩ = some (.slice A2 m.cache.length Ad2) ∧ w'.cell? ⟨g3, 2, none⟩ = some (.bool m.failed) ∧ w'.cell? ⟨g3, 3, none⟩ = some (.slice A3 m.bad.length Ad3)) w12 := ⟨y0, y1, y2, y3⟩
      clear y0 y1 y2 y3
      refine hK.out _ _ ⟨fun _ _ => hS, ?_⟩; clear hK K; (try simp only [Act.put, List.getElem_toArray, List.getElem_cons_succ, List.getElem_cons_zero, List.setIfInBounds_toArray, List.set_cons_zero, List.set_cons_succ])
      iterate 1 (refine tr_pure rfl (fun _ _ _ h => h) (by rfl) (fun w_ => by go_simp; first | done | with_reducible rfl) ?_; (try simp only [Act.put, List.getElem_toArray, List.getElem_cons_succ, List.getElem_cons_zero, List.setIfInBounds_toArray, List.set_cons_zero, List.set_cons_succ]))
      refine tr_step rfl (fun K hK => ?_)
      go_simp
      go_at_call 32; refine (c_implFallMem (MemO_R (HS12.out.get 2 rfl)) (memB_small HM.out.1)).mono ?_; rintro e w13 ⟨u, F, rfl, hn⟩; have hq := HS12.out.new hn; clear hn; obtain ⟨X1, Xd1, X2, Xd2, X3, Xd3, rfl⟩ := me_form hq; have HS13 := Aside0.mk hq; clear hq
      clear hS
      obtain ⟨y0, y1, y2, y3⟩ := four (HS13.out.get 2 rfl)
      have hS : (fun w' : World => w'.cell? ⟨g3, 0, none⟩ = some (.slice A1 m.secs.length Ad1) ∧ w'.cell? ⟨g3, 1, none⟩ = some (.slice A2 m.cache.length Ad2) ∧ w'.cell? ⟨g3, 2, none⟩ = some (.bool m.failed) ∧ w'.cell? ⟨g3, 3, none⟩ = some (.slice A3 m.bad.length Ad3)) w13 := ⟨y0, y1, y2, y3⟩
      clear y0 y1 y2 y3
      refine hK.out _ _ ⟨fun _ _ => hS, ?_⟩; clear hK K; (try simp only [Act.put, List.getElem_toArray, List.getElem_cons_succ, List.getElem_cons_zero, List.setIfInBounds_toArray, List.set_cons_zero, List.set_cons_succ])
      refine tr_step rfl (fun K hK => ?_)
      obtain ⟨z0, z1, z2, z3⟩ := four (HS13.out.get 1 rfl)
      have fz := blk_frozen (HS13.out.get 1 rfl)
      clear hS
      go_simp
      refine hK.out _ _ ⟨(fun h => (by cases h)), ?_⟩; clear hK K; (try simp only [Act.put, List.getElem_toArray, List.getElem_cons_succ, List.getElem_cons_zero, List.setIfInBounds_toArray, List.set_cons_zero, List.set_cons_succ])
      refine tr_done ?_
      go_wp2_with fail
      go_meet
      exact ⟨_, F, _, X1, Xd1, X2, Xd2, X3, Xd3, rfl, ⟨(HS13.out.box4 1 rfl (.slice X1 (fallV m _).secs.length Xd1) (.slice X2 (fallV m _).cache.length Xd2) (.bool (fallV m _).failed) (.slice X3 (fallV m _).bad.length Xd3)).sel [1, 0, 2, 3] (by decide) (by simp)⟩⟩
  case rest =>
    clear HS3 bm_0 bm_1 bm_2 bm_3
    obtain ⟨gx, Fx, z, X1, Xd1, X2, Xd2, X3, Xd3, rfl, HS20⟩ := hcut
    obtain ⟨x, hx⟩ : ∃ x, fallV m z = x := ⟨_, rfl⟩
    rw [hx] at HS20
    have HX := Aside0.mk hx
    clear hx
    obtain ⟨bm_0, bm_1, bm_2, bm_3⟩ := four (HS20.out.get 2 rfl)
    go_upto_region 6 with (first
      | (go_at_call 32; refine (c_implFallMem (MemO_R (HS20.out.get 3 rfl)) (memB_small HM.out.1)).mono ?_; rintro e w21 ⟨u, Fy, rfl, hn⟩; have hq := HS20.out.new hn; clear hn; obtain ⟨Y1, Yd1, Y2, Yd2, Y3, Yd3, rfl⟩ := me_form hq; have HS21 := Aside0.mk (hq); clear hq)
      | fail)
    have hB := HS21.out.alloc (g := w21.heap.size) rfl #[.slice Y1 (fallV m 1048575).secs.length Yd1, .slice Y2 (fallV m 1048575).cache.length Yd2, .bool (fallV m 1048575).failed, .slice Y3 (fallV m 1048575).bad.length Yd3] 30
    generalize hgg : w21.heap.size = g22 at *
    generalize hww : w21.alloc (.cells #[.slice Y1 (fallV m 1048575).secs.length Yd1, .slice Y2 (fallV m 1048575).cache.length Yd2, .bool (fallV m 1048575).failed, .slice Y3 (fallV m 1048575).bad.length Yd3] 30 (0, 0)) = w22 at *
    have HS22 := Aside0.mk (hB)
    clear hB hgg hww
    obtain ⟨y, hy⟩ : ∃ x, (fallV m 1048575) = x := ⟨_, rfl⟩
    rw [hy] at HS22 ⊢
    have Hy := Aside0.mk hy
    clear hy
    clear bm_0 bm_1 bm_2 bm_3; obtain ⟨bm_0, bm_1, bm_2, bm_3⟩ := four (HS22.out.get 4 rfl)
    go_upto_region 7 with (first
      | (go_at_call 32; refine (c_implFallMem (MemO_R (HS22.out.get 5 rfl)) (memB_small HM.out.1)).mono ?_; rintro e w23 ⟨u, Fzz, rfl, hn⟩; have hq := HS22.out.new hn; clear hn; obtain ⟨Z1, Zd1, Z2, Zd2, Z3, Zd3, rfl⟩ := me_form hq; have HS23 := Aside0.mk (hq); clear hq)
      | fail)
    have hB := HS23.out.alloc (g := w23.heap.size) rfl #[.slice Z1 (fallV m 0).secs.length Zd1, .slice Z2 (fallV m 0).cache.length Zd2, .bool (fallV m 0).failed, .slice Z3 (fallV m 0).bad.length Zd3] 30
    generalize hgg : w23.heap.size = g24 at *
    generalize hww : w23.alloc (.cells #[.slice Z1 (fallV m 0).secs.length Zd1, .slice Z2 (fallV m 0).cache.length Zd2, .bool (fallV m 0).failed, .slice Z3 (fallV m 0).bad.length Zd3] 30 (0, 0)) = w24 at *
    have HS24 := Aside0.mk (hB)
    clear hB hgg hww
    obtain ⟨zz, hzz⟩ : ∃ x, (fallV m 0) = x := ⟨_, rfl⟩
    rw [hzz] at HS24 ⊢
    have Hzz := Aside0.mk hzz
    clear hzz
    clear bm_0 bm_1 bm_2 bm_3; obtain ⟨bm_0, bm_1, bm_2, bm_3⟩ := four (HS24.out.get 6 rfl)
    go_upto_region 8 with (first
      | (go_at_call 36; refine (c_implFlushMem (MemO_R (HS24.out.get 7 rfl)) (memB_small HM.out.1)).mono ?_; rintro e w25 ⟨u, Ff, rfl, hn⟩; have hq := HS24.out.new hn; clear hn; obtain ⟨G1, Gd1, G2, Gd2, G3, Gd3, rfl⟩ := me_form hq; have HS25 := Aside0.mk (hq); clear hq)
      | fail)
    have hB := HS25.out.alloc (g := w25.heap.size) rfl #[.slice G1 (flushV m).secs.length Gd1, .slice G2 (flushV m).cache.length Gd2, .bool (flushV m).failed, .slice G3 (flushV m).bad.length Gd3] 30
    generalize hgg : w25.heap.size = g26 at *
    generalize hww : w25.alloc (.cells #[.slice G1 (flushV m).secs.length Gd1, .slice G2 (flushV m).cache.length Gd2, .bool (flushV m).failed, .slice G3 (flushV m).bad.length Gd3] 30 (0, 0)) = w26 at *
    have HS26 := Aside0.mk (hB)
    clear hB hgg hww
    obtain ⟨f, hf⟩ : ∃ x, (flushV m) = x := ⟨_, rfl⟩
    rw [hf] at HS26 ⊢
    have Hf := Aside0.mk hf
    clear hf
    have hq := HS26.out.sel [8, 6, 4, 2, 0, 9, 7, 5, 3, 1] (by decide) (by simp)
    simp only [List.map_cons, List.map_nil, pick, List.getD_cons_succ, List.getD_cons_zero, List.set_cons_zero, List.set_cons_succ, List.eraseIdx_cons_zero, List.eraseIdx_cons_succ, List.setIfInBounds_toArray] at hq
    clear bm_0 bm_1 bm_2 bm_3
    have HS27 := Aside0.mk (hq)
    clear hq HS26
    have hxl : x.secs.length = m.secs.length := by rw [← HX.out]; exact fallV_len HM.out.1 _
    have hyl : y.secs.length = m.secs.length := by rw [← Hy.out]; exact fallV_len HM.out.1 _
    have hzl : zz.secs.length = m.secs.length := by rw [← Hzz.out]; exact fallV_len HM.out.1 _
    have hfl : f.secs.length = m.secs.length := by rw [← Hf.out]; exact flushV_len _
    have HL := Aside0.mk (And.intro hxl (And.intro hyl (And.intro hzl hfl)))
    clear hxl hyl hzl hfl
    have hml := (memB_parts HM.out.1).2.2.2.1
    have hmc := HM.out.2.2
    go_wp2
    go_loopw [8] (fun v8 wr => ∃ i : Nat, i ≤ m.secs.length ∧ v8 = .int .i64 i ∧ Aside0 (Sep w [] wr [bx g3 30 #[.slice A1 m.secs.length Ad1, .slice A2 m.cache.length Ad2, .bool m.failed, .slice A3 m.bad.length Ad3], bx gx 30 #[.slice X1 x.secs.length Xd1, .slice X2 x.cache.length Xd2, .bool x.failed, .slice X3 x.bad.length Xd3], bx g22 30 #[.slice Y1 y.secs.length Yd1, .slice Y2 y.cache.length Yd2, .bool y.failed, .slice Y3 y.bad.length Yd3], bx g24 30 #[.slice Z1 zz.secs.length Zd1, .slice Z2 zz.cache.length Zd2, .bool zz.failed, .slice Z3 zz.bad.length Zd3], bx g26 30 #[.slice G1 f.secs.length Gd1, .slice G2 f.cache.length Gd2, .bool f.failed, .slice G3 f.bad.length Gd3], me Fm (.agg #[.slice A1 m.secs.length Ad1, .slice A2 m.cache.length Ad2, .bool m.failed, .slice A3 m.bad.length Ad3]) m, me Fx (.agg #[.slice X1 x.secs.length Xd1, .slice X2 x.cache.length Xd2, .bool x.failed, .slice X3 x.bad.length Xd3]) x, me Fy (.agg #[.slice Y1 y.secs.length Yd1, .slice Y2 y.cache.length Yd2, .bool y.failed, .slice Y3 y.bad.length Yd3]) y, me Fzz (.agg #[.slice Z1 zz.secs.length Zd1, .slice Z2 zz.cache.length Zd2, .bool zz.failed, .slice Z3 zz.bad.length Zd3]) zz, me Ff (.agg #[.slice G1 f.secs.length Gd1, .slice G2 f.cache.length Gd2, .bool f.failed, .slice G3 f.bad.length Gd3]) f])) (fun v8 _ => m.secs.length - (intOf v8).toNat)
    case atStart => exact ⟨0, by omega, rfl, HS27⟩
    case round =>
      clear HS27
      obtain ⟨i, hi, rfl, HR⟩ := hrel
      obtain ⟨k0, k1, k2, k3⟩ := four (HR.out.get 0 rfl)
      obtain ⟨x0, x1, x2, x3⟩ := four (HR.out.get 1 rfl)
      by_cases hlt : i < m.secs.length
      · have hL := HL.out
        obtain ⟨mi, hmi⟩ : ∃ a, m.secs[i]? = some a := ⟨_, List.getElem?_eq_getElem hlt⟩
        obtain ⟨xi, hxi⟩ : ∃ a, x.secs[i]? = some a := ⟨_, List.getElem?_eq_getElem (by omega)⟩
        have hyz : y.secs[i]? = f.secs[i]? ∧ zz.secs[i]? = m.secs[i]? := ⟨by rw [← Hy.out, ← Hf.out, all_kept HM.out.1 HM.out.2.1 HM.out.2.2], by rw [← Hzz.out, none_kept HM.out.1]⟩
        obtain ⟨fi, hfi⟩ : ∃ a, f.secs[i]? = some a := ⟨_, List.getElem?_eq_getElem (by omega)⟩
        have hyi : y.secs[i]? = some fi := hyz.1.trans hfi
        have hzi : zz.secs[i]? = some mi := hyz.2.trans hmi
        have hone := one_of HM.out.1 z (by rw [HX.out]; exact hxi) hmi
        have HONE := Aside0.mk hone
        have i0 : (0 : Int) ≤ (i : Int) := by omega
        have ilm : (i : Int) < (m.secs.length : Int) := by omega
        have ilx : (i : Int) < (x.secs.length : Int) := by omega
        have ily : (i : Int) < (y.secs.length : Int) := by omega
        have ilz : (i : Int) < (zz.secs.length : Int) := by omega
        have ilf : (i : Int) < (f.secs.length : Int) := by omega
        have hL0 : 0 < m.secs.length ∧ 0 < x.secs.length ∧ 0 < y.secs.length ∧ 0 < zz.secs.length ∧ 0 < f.secs.length := by omega
        have row : ∀ {W : World} {F : List Nat} {s c b : Value} {fl : Bool} {v : MemV} {a : List Int}, MemO W F (.agg #[s, c, .bool fl, b]) v → v.secs[i]? = some a → ∃ ad cap u, s = .slice (some ad) v.secs.length cap ∧ W.cell? (ad.add i) = some u ∧ RK kInt W u a := fun {W F s c b fl v a} hm ha => by
          obtain ⟨s', c', b', hv, r1, r2, r3⟩ := MemO_R hm
          have h1 := congrArg Array.toList (Value.agg.inj hv)
          simp only [List.cons.injEq, and_true] at h1
          obtain ⟨e1, _⟩ := h1
          subst e1
          obtain ⟨ad, cap, rfl, hc⟩ := RK_slices r1 (by have := (List.getElem?_eq_some_iff.1 ha).1; omega)
          obtain ⟨u, hu, ru⟩ := hc i a ha
          exact ⟨ad, cap, u, rfl, hu, ru⟩
        obtain ⟨am, cm, um, em_, cem, rm⟩ := row (HR.out.get 5 rfl) hmi
        obtain rfl := (Value.slice.inj em_).1
        obtain ⟨ax, cx, ux, ex_, cex, rx⟩ := row (HR.out.get 6 rfl) hxi
        obtain rfl := (Value.slice.inj ex_).1
        have Rm := Aside0.mk rm
        have Rx := Aside0.mk rx
        have Hmi := Aside0.mk hmi
        have Hxi := Aside0.mk hxi
        have Hfi := Aside0.mk (And.intro hfi (And.intro hyi hzi))
        have Row := Aside0.mk @row
        clear rm rx em_ ex_ hmi hxi hfi hyi hzi hyz hone row hL
        have hc : ∀ q, Calls Try.prog 30 #[ux, um] (wr.drewN q) fun e w' => e = .returned (.bool (decide (xi = mi))) ∧ ∃ n, w' = (wr.drewN q).drewN n := fun q => c_sameInts ((Dr.refl _).next q |>.rk Rx.out) ((Dr.refl _).next q |>.rk Rm.out)
        go_upto_region 11 with fail
        go_quiet ((go_at_call 30; exact Calls.quiet_of (hc _)))
        clear hc
        have HR2 := Aside0.mk (HR.out.drewN nq)
        generalize wr.drewN nq = w30 at *
        clear cem cex k0 k1 k2 k3 x0 x1 x2 x3 HR
        go_wp2
        go_loopw [9, 10] (fun v9 v10 wr => ∃ k : Nat, k ≤ m.cache.length ∧ v10 = .int .i64 k ∧ v9 = .bool (decide (xi = mi) || (m.cache.take k).any (fun e => e.1 == (i : Int) && decide (xi = e.2))) ∧ Aside0 (Sep w [] wr [bx g3 30 #[.slice (some am) m.secs.length Ad1, .slice A2 m.cache.length Ad2, .bool m.failed, .slice A3 m.bad.length Ad3], bx gx 30 #[.slice (some ax) x.secs.length Xd1, .slice X2 x.cache.length Xd2, .bool x.failed, .slice X3 x.bad.length Xd3], bx g22 30 #[.slice Y1 y.secs.length Yd1, .slice Y2 y.cache.length Yd2, .bool y.failed, .slice Y3 y.bad.length Yd3], bx g24 30 #[.slice Z1 zz.secs.length Zd1, .slice Z2 zz.cache.length Zd2, .bool zz.failed, .slice Z3 zz.bad.length Zd3], bx g26 30 #[.slice G1 f.secs.length Gd1, .slice G2 f.cache.length Gd2, .bool f.failed, .slice G3 f.bad.length Gd3], me Fm (.agg #[.slice (some am) m.secs.length Ad1, .slice A2 m.cache.length Ad2, .bool m.failed, .slice A3 m.bad.length Ad3]) m, me Fx (.agg #[.slice (some ax) x.secs.length Xd1, .slice X2 x.cache.length Xd2, .bool x.failed, .slice X3 x.bad.length Xd3]) x, me Fy (.agg #[.slice Y1 y.secs.length Yd1, .slice Y2 y.cache.length Yd2, .bool y.failed, .slice Y3 y.bad.length Yd3]) y, me Fzz (.agg #[.slice Z1 zz.secs.length Zd1, .slice Z2 zz.cache.length Zd2, .bool zz.failed, .slice Z3 zz.bad.length Zd3]) zz, me Ff (.agg #[.slice G1 f.secs.length Gd1, .slice G2 f.cache.length Gd2, .bool f.failed, .slice G3 f.bad.length Gd3]) f])) (fun _ v10 _ => m.cache.length - (intOf v10).toNat)
        case atStart => exact ⟨0, by omega, rfl, by simp, HR2⟩
        case round =>
          clear HR2
          obtain ⟨k, hk, rfl, rfl, HR⟩ := hrel
          obtain ⟨k0, k1, k2, k3⟩ := four (HR.out.get 0 rfl)
          by_cases hlk : k < m.cache.length
          · obtain ⟨⟨en, es⟩, hek⟩ : ∃ a, m.cache[k]? = some a := ⟨_, List.getElem?_eq_getElem hlk⟩
            have hnext := any_take (f := fun e => e.1 == (i : Int) && decide (xi = e.2)) hek (decide (xi = mi))
            have HN := Aside0.mk hnext
            obtain ⟨s', c', b', hv, r1, r2, r3⟩ := MemO_R (show MemO wr Fm _ m from HR.out.get 5 rfl)
            have h1 := congrArg Array.toList (Value.agg.inj hv)
            simp only [List.cons.injEq, and_true] at h1
            obtain ⟨_, e2, _⟩ := h1
            subst e2
            obtain ⟨ad, cap, hA2, hcc⟩ := RK_wrs r2 (by omega)
            obtain rfl := (Value.slice.inj hA2).1
            obtain ⟨us, cn, cs, rs⟩ := hcc k _ hek
            have Rs := Aside0.mk rs
            have kl0 : (0 : Int) ≤ (k : Int) := by omega
            have klm : (k : Int) < (m.cache.length : Int) := by omega
            simp only at cn cs
            clear hnext hv r1 r2 r3 hA2 hcc hek rs
            generalize hbv : (decide (xi = mi) || (m.cache.take k).any (fun e => e.1 == (i : Int) && decide (xi = e.2))) = bv at *
            clear hbv
            cases bv
            · by_cases hn : en = (i : Int)
              · subst hn
                have hnn : ((i : Int) == (i : Int)) = true := by simp
                obtain ⟨x0, x1, x2, x3⟩ := four (HR.out.get 1 rfl)
                obtain ⟨ax2, cx2, ux2, ex_, cex, rx⟩ := Row.out (HR.out.get 6 rfl) Hxi.out
                obtain rfl := Option.some.inj (Value.slice.inj ex_).1
                have Rx2 := Aside0.mk rx
                clear rx ex_
                have hc : ∀ q, Calls Try.prog 30 #[ux2, us] (wr.drewN q) fun e w' => e = .returned (.bool (decide (xi = es))) ∧ ∃ n, w' = (wr.drewN q).drewN n := fun q => c_sameInts ((Dr.refl _).next q |>.rk Rx2.out) ((Dr.refl _).next q |>.rk Rs.out)
                go_upto_region 15 with fail
                go_quiet ((go_at_call 30; exact Calls.quiet_of (hc _)))
                go_wp2
                go_roundw
                case rel => exact ⟨k + 1, by omega, by go_num, by rw [HN.out]; simp, ⟨HR.out.drewN _⟩⟩
                case measure => simp [intOf]; omega
              · have hnn : (en == (i : Int)) = false := by simpa using hn
                go_upto_region 15 with fail
                go_quiet (fail)
                go_wp2
                go_roundw
                case rel => exact ⟨k + 1, by omega, by go_num, by rw [HN.out]; simp [hnn], ⟨HR.out.drewN _⟩⟩
                case measure => simp [intOf]; omega
            · go_upto_region 15 with fail
              go_quiet (fail)
              go_wp2
              go_roundw
              case rel => exact ⟨k + 1, by omega, by go_num, by rw [HN.out]; simp, ⟨HR.out.drewN _⟩⟩
              case measure => simp [intOf]; omega
          · obtain rfl : k = m.cache.length := by omega
            have hb := HONE.out
            rw [List.take_length, hb]
            clear hb
            obtain ⟨y0, y1, y2, y3⟩ := four (HR.out.get 2 rfl)
            obtain ⟨z0, z1, z2, z3⟩ := four (HR.out.get 3 rfl)
            obtain ⟨f0, f1, f2, f3⟩ := four (HR.out.get 4 rfl)
            obtain ⟨am2, cm2, um2, em2, cem2, rm2⟩ := Row.out (HR.out.get 5 rfl) Hmi.out
            obtain rfl := Option.some.inj (Value.slice.inj em2).1
            obtain ⟨ay, cy, uy, ey, cey, ry⟩ := Row.out (HR.out.get 7 rfl) Hfi.out.2.1
            obtain rfl := (Value.slice.inj ey).1
            obtain ⟨az, cz, uz, ez, cez, rz⟩ := Row.out (HR.out.get 8 rfl) Hfi.out.2.2
            obtain rfl := (Value.slice.inj ez).1
            obtain ⟨af, cf, uf, ef, cef, rf_⟩ := Row.out (HR.out.get 9 rfl) Hfi.out.1
            obtain rfl := (Value.slice.inj ef).1
            have R1 := Aside0.mk rm2
            have R2 := Aside0.mk ry
            have R3 := Aside0.mk rz
            have R4 := Aside0.mk rf_
            clear rm2 ry rz rf_ em2 ey ez ef
            have hcg : ∀ q (a b : Value) (l : List Int), RK kInt wr a l → RK kInt wr b l → Calls Try.prog 30 #[a, b] (wr.drewN q) fun e w' => e = .returned (.bool true) ∧ ∃ n, w' = (wr.drewN q).drewN n := fun q a b l ha hb => by
              have h := c_sameInts ((Dr.refl _).next q |>.rk ha) ((Dr.refl _).next q |>.rk hb)
              rwa [decide_eq_true rfl] at h
            go_upto_region 16 with fail
            go_quiet ((go_at_call 30; exact Calls.quiet_of (hcg _ _ _ _ (by first | exact R2.out | exact R3.out) (by first | exact R4.out | exact R1.out))))
            go_wp2
            go_roundw
            case rel => exact ⟨i + 1, by omega, by go_num, ⟨HR.out.drewN _⟩⟩
            case measure => simp [intOf]; omega
      · obtain rfl : i = m.secs.length := by omega
        have hmx : memB x = true := by rw [← HX.out]; exact memB_fall HM.out.1 _
        have hxc : x.cache.length = 0 := by rw [← HX.out, fallV_cache HM.out.1]; rfl
        have HXC := Aside0.mk hxc
        rw [hxc] at x1
        clear hxc
        go_wp2_with (first
          | (go_at_call 28; (first
              | (refine (c_implMemOk (MemO_R (HT.out.get 6 rfl))).mono ?_; rw [hmx]; rintro e w32 ⟨rfl, hb⟩; have HU := Aside0.mk (HT.out.below hb); clear hb x0 x1 x2 x3; obtain ⟨x0, x1, x2, x3⟩ := four (HU.out.get 1 rfl); rw [HXC.out] at x1)
              | (refine (c_implMemOk (MemO_R (HR.out.get 5 rfl))).mono ?_; rw [HM.out.1]; rintro e w31 ⟨rfl, hb⟩; have HT := Aside0.mk (HR.out.below hb); clear hb k0 k1 k2 k3 x0 x1 x2 x3; obtain ⟨x0, x1, x2, x3⟩ := four (HT.out.get 1 rfl))))
          | fail)
        go_ret
        exact ⟨rfl, HU.out.toBelow⟩
end Go.Proofs.Ytlmnmcfieagmbaa.LawFnFalls
