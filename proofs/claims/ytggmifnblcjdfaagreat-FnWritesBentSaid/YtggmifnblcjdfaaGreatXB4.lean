/- Own text: MCopy MCopyS. -/
import Derived.Test.YtggmifnblcjdfaaGreatXB2
import Derived.Deep.RegionHeld3
import Derived.Deep.AppendLies
import Derived.Deep.DrawnRows
import Derived.Deep.DeepCutAuto
import Derived.Tactics2
set_option linter.unusedVariables false
set_option linter.unusedSimpArgs false
namespace Go.Proofs.YtggmifnblcjdfaaGreat
namespace MCopy
open Go.RowKit RJ Go.Proofs.YtggmifnblcjdfaaGreatW.PrintWords Fp FpStep MInt MKinds MRead MMake MPut Go.Proofs.YtggmifnblcjdfaaGreat.Sep SepStep
attribute [local go_sem ↓] Go.wp_at_zero Go.wp_at_succ
set_option maxHeartbeats 2000000 in
set_option maxRecDepth 100000 in
theorem c_copyMem {w : World} {v : Value} {m : MemV} (h : MemR w v m) (hs : Small m) :
  Calls Tryz.prog 125 #[v] w fun e w' => ∃ u F, e = .returned u ∧ New w w' (me F u m) := by
 obtain ⟨s, c, b, rfl, r1, r2, r3⟩ := h
 have H1 := Aside0.mk r1
 have H2 := Aside0.mk r2
 have H3 := Aside0.mk r3
 obtain ⟨A1, c1, rfl, _⟩ := r1
 obtain ⟨A2, c2, rfl, _⟩ := r2
 obtain ⟨A3, c3, rfl, _⟩ := r3
 have hb1 := hs.1
 have hb2 := hs.2.2.1
 have HS := Aside0.mk hs
 clear hs
 generalize hmf : m.failed = mf
 have Hmf := Aside0.mk hmf
 clear hmf
 go_enter Tryz.func125, Tryz.ntmps125
 go_upto_region 1 with fail
 go_cut [3] (fun s3 wx => ∃ (g : Nat) (A4 : Option Addr) (c4 : Nat) (F : List Nat), s3 = .pointer (some ⟨g, 0, none⟩) ∧ Aside0 (Sep w [] wx [bx g 89 #[.slice none 0 0, .slice none 0 0, .bool mf, .slice A4 m.bad.length c4], rw_ oInt 3 F (.slice A4 m.bad.length c4) m.bad, bx (w.heap.size + 1) 89 #[.slice none 0 0, .slice none 0 0, .bool false, .slice none 0 0], bx w.heap.size 89 #[.slice A1 m.secs.length c1, .slice A2 m.cache.length c2, .bool mf, .slice A3 m.bad.length c3]]))
 case first =>
  go_region_held3 (fun w' => w'.cell? ⟨w.heap.size, 2, none⟩ = some (.bool mf) ∧ w'.cell? ⟨w.heap.size, 3, none⟩ = some (.slice A3 m.bad.length c3))
   (first
    | with_reducible exact ⟨q3, q4⟩
    | with_reducible exact ⟨far4 (by simp; omega) q3, far4 (by simp; omega) q4⟩
    | go_keep)
   ((go_at_call 75; refine (c_copyInts (RK_below H3.out (by repeat (first | exact Below.refl _ _ | apply below_alloc | apply below_drew))) HS.out.2.2.2.2).mono ?_; rintro e w6 ⟨u6, F6, rfl, hu6, hF6, hb6⟩; obtain ⟨A4, c4, rfl, hzz⟩ := O_RK hu6; clear hzz; first | (have HS6 := ((((Sep.start w []).alloc (g := w.heap.size) rfl _ _).alloc (g := w.heap.size + 1) (by simp) _ _).drew.alloc (g := w.heap.size + 1 + 1) (by simp) _ _).new (new_row hu6 hF6 hb6); have qm : w6.heap[w.heap.size]? = some (.cells #[.slice A1 m.secs.length c1, .slice A2 m.cache.length c2, .bool mf, .slice A3 m.bad.length c3] 89 (0, 0)) := HS6.get 3 rfl; obtain ⟨q1, q2, q3, q4⟩ := four qm; have gz : w6.heap[w.heap.size + 1 + 1]? = some (.cells #[.slice none 0 0, .slice none 0 0, .bool false, .slice none 0 0] 89 (0, 0)) := HS6.get 1 rfl; obtain ⟨z1, z2, z3, z4⟩ := four gz; have fz := blk_frozen gz; clear gz) | (have HS6 := ((((Sep.start w []).alloc (g := w.heap.size) rfl _ _).alloc (g := w.heap.size + 1) (by simp) _ _).drew).new (new_row hu6 hF6 hb6); have qm : w6.heap[w.heap.size]? = some (.cells #[.slice A1 m.secs.length c1, .slice A2 m.cache.length c2, .bool mf, .slice A3 m.bad.length c3] 89 (0, 0)) := HS6.get 2 rfl; obtain ⟨q1, q2, q3, q4⟩ := four qm)))
  all_goals (go_wp2_with fail; go_meet; first | exact ⟨_, A4, c4, F6, rfl, ⟨HS6.alloc rfl _ _⟩⟩ | exact ⟨_, A4, c4, F6, rfl, ⟨((((HS6.setb 1 rfl 0 _ rfl).setb 1 rfl 1 _ rfl).setb 1 rfl 2 _ rfl).setb 1 rfl 3 _ rfl).sel [1, 0, 2, 3] (by decide) (by simp)⟩⟩)
 case rest =>
  obtain ⟨g, A4, c4, F4, rfl, HA⟩ := hcut
  obtain ⟨m1, m2, m3, m4⟩ := four (HA.out.get 3 rfl)
  go_wp2
  go_loopw [17] (fun v17 wr => ∃ i : Nat, i ≤ m.secs.length ∧ v17 = .int .i64 i ∧ ∃ (v : Value) (F : List Nat), Aside0 (Sep w [] wr [bx g 89 #[v, .slice none 0 0, .bool mf, .slice A4 m.bad.length c4], rw_ oSec 28 F v (m.secs.take i), rw_ oInt 3 F4 (.slice A4 m.bad.length c4) m.bad, bx (w.heap.size + 1) 89 #[.slice none 0 0, .slice none 0 0, .bool false, .slice none 0 0], bx w.heap.size 89 #[.slice A1 m.secs.length c1, .slice A2 m.cache.length c2, .bool mf, .slice A3 m.bad.length c3]])) (fun v17 _ => m.secs.length - (intOf v17).toNat)
  case atStart => exact ⟨0, by omega, rfl, _, [], ⟨(HA.out.nil oSec 28).sel [1, 0, 2, 3, 4] (by decide) (by simp)⟩⟩
  case round =>
   obtain ⟨i, hi, rfl, v, F, HR⟩ := hrel
   clear m1 m2 m3 m4
   by_cases hlt : i < m.secs.length
   ·obtain ⟨x, hxi⟩ : ∃ x, m.secs[i]? = some x := ⟨_, List.getElem?_eq_getElem hlt⟩
    obtain ⟨ad, cap, ha, hc⟩ := RK_slices (RK_below H1.out HR.out.toBelow) (by omega)
    cases ha
    obtain ⟨u, cu, ru⟩ := hc i x hxi
    have Ru := Aside0.mk ru
    have hxl := HS.out.2.1 x (List.mem_of_getElem? hxi)
    have Hxi := Aside0.mk hxi
    clear hc ru hxi
    obtain ⟨p1, p2, p3, p4⟩ := four (HR.out.get 0 rfl)
    clear p2 p3 p4
    have HO := Aside0.mk (show oSec.O 28 wr F v (m.secs.take i) from HR.out.get 1 rfl)
    go_wp2
    refine wp_region_seq (fun w' => w'.cell? ⟨g, 0, none⟩ = some v) [7] [(0, true), (1, true), (2, true), (3, false), (4, false), (5, false), (6, true), (7, false)] (by kernel_rfl) (by kernel_rfl) ?_
    have hS : (fun w' : World => w'.cell? ⟨g, 0, none⟩ = some v) wr.drew := p1
    iterate 3 (refine seq_take hS rfl (fun _ _ _ h => h) (by rfl) (fun w_ hSw => by (try dsimp only at hSw); go_simp; first | done | with_reducible rfl) ?_; (try simp only [Act.put, qqP]))
    refine seq_step rfl (fun K hK => ?_)
    go_simp
    go_at_call 75; refine (c_copyInts (RK_below Ru.out (below_drew (Below.refl _ _))) hxl).mono ?_; rintro e w1 ⟨u1, G, rfl, hu, hG, hb⟩
    have HS1 := Aside0.mk (HR.out.drew.new (new_row hu hG hb)); obtain ⟨A5, c5, rfl, hzz⟩ := O_RK hu; have HU := Aside0.mk hu; clear hzz hu hG hb p1 hS
    have p1 := (four (HS1.out.get 1 rfl)).1
    refine hK.out _ _ ⟨fun _ => p1, ?_⟩; clear hK K; (try simp only [Act.put, qqP])
    have e1 := cell_alloc p1
    refine seq_step rfl (fun K hK => ?_)
    go_simp
    refine hK.out _ _ ⟨fun _ => e1 _, ?_⟩; clear hK K; (try simp only [Act.put, qqP])
    refine seq_step rfl (fun K hK => ?_)
    refine step_app (d := oSec) (y := x) (HS1.out.sel [2, 0, 1, 3, 4, 5] (by decide) (by simp)) 0 rfl _ _ 80 (.slice none 0 0) 24 (by rfl) Tryz.underlying80 (by kernel_rfl) rfl (by decide) (by decide) [.slice A5 x.length c5] ⟨_, rfl, HU.out⟩ (by rfl) (by rfl) (by rfl) (n := i) (by simp; omega) (by omega) ?_
    intro g2 cap2 w2 F2 h2
    have HS2 := Aside0.mk h2
    have p1 := (four (h2.get 1 rfl)).1
    have fz := blk_frozen (h2.get 1 rfl)
    clear h2 e1
    refine hK.out _ _ ⟨fun _ => p1, ?_⟩; clear hK K; (try simp only [Act.put, qqP])
    have hS : (fun w' : World => w'.cell? ⟨g, 0, none⟩ = some v) w2 := p1
    iterate 1 (refine seq_take hS rfl (fun _ _ _ h => h) (by rfl) (fun w_ hSw => by (try dsimp only at hSw); go_simp; first | done | with_reducible rfl) ?_; (try simp only [Act.put, qqP]))
    clear hS
    refine seq_step rfl (fun K hK => ?_)
    go_simp
    refine hK.out _ _ ⟨(fun h => (by cases h)), ?_⟩; clear hK K; (try simp only [Act.put, qqP])
    refine seq_done ?_
    all_goals
     go_wp2
     go_roundw
     case rel =>
      refine ⟨i + 1, by omega, by go_num, .slice (some ⟨g2, 0, none⟩) (i + 1) cap2, F2, ⟨?_⟩⟩
      rw [take_snoc Hxi.out]
      exact (HS2.out.setb 1 rfl 0 _ rfl).sel [1, 0, 2, 3, 4] (by decide) (by simp)
     case measure => simp [intOf]; omega
   ·obtain rfl : i = m.secs.length := by omega
    rw [List.take_length] at HR
    obtain ⟨B1, d1, rfl, hzz⟩ := O_RK (show oSec.O 28 wr F v m.secs from HR.out.get 1 rfl)
    clear hzz
    obtain ⟨m1, m2, m3, m4⟩ := four (HR.out.get 4 rfl)
    go_wp2
    go_loopw [32] (fun v32 ws => ∃ i : Nat, i ≤ m.cache.length ∧ v32 = .int .i64 i ∧ ∃ (v : Value) (G : List Nat), Aside0 (Sep w [] ws [bx g 89 #[.slice B1 m.secs.length d1, v, .bool mf, .slice A4 m.bad.length c4], rw_ oSec 28 F (.slice B1 m.secs.length d1) m.secs, rw_ oWr 126 G v (m.cache.take i), rw_ oInt 3 F4 (.slice A4 m.bad.length c4) m.bad, bx (w.heap.size + 1) 89 #[.slice none 0 0, .slice none 0 0, .bool false, .slice none 0 0], bx w.heap.size 89 #[.slice A1 m.secs.length c1, .slice A2 m.cache.length c2, .bool mf, .slice A3 m.bad.length c3]])) (fun v32 _ => m.cache.length - (intOf v32).toNat)
    case atStart => exact ⟨0, by omega, rfl, _, [], ⟨(HR.out.nil oWr 126).sel [1, 2, 0, 3, 4, 5] (by decide) (by simp)⟩⟩
    case round =>
     obtain ⟨i, hi, rfl, v, G, HR⟩ := hrel
     clear m1 m2 m3 m4
     by_cases hlt : i < m.cache.length
     ·obtain ⟨⟨xn, x⟩, hxi⟩ : ∃ x, m.cache[i]? = some x := ⟨_, List.getElem?_eq_getElem hlt⟩
      obtain ⟨ad, cap, ha, hc⟩ := RK_wrs (RK_below H2.out HR.out.toBelow) (by omega)
      cases ha
      obtain ⟨u, cn, cu, ru⟩ := hc i _ hxi
      obtain ⟨A6, c6, rfl, _⟩ := id ru
      have Ru := Aside0.mk ru
      have hxl := HS.out.2.2.2.1 _ (List.mem_of_getElem? hxi)
      have Hxi := Aside0.mk hxi
      clear hc ru hxi
      go_wp2
      have hB := HR.out.alloc rfl #[.int .i64 xn, .slice A6 x.length c6] 126
      generalize hgb : wr.heap.size = gb at *
      generalize hwb : wr.alloc (.cells #[.int .i64 xn, .slice A6 x.length c6] 126 (0, 0)) = wb at *
      have HB := Aside0.mk hB
      have Ru2 := Aside0.mk (show RK kInt wb _ x from RK_below Ru.out (by rw [← hwb]; exact below_alloc (Below.refl _ _) _))
      clear hB hgb hwb cn cu
      have p2 := (four (HB.out.get 1 rfl)).2.1
      obtain ⟨q1, q2⟩ := two (HB.out.get 0 rfl)
      refine wp_region_seq (fun w' => w'.cell? ⟨g, 1, none⟩ = some v ∧ w'.cell? ⟨gb, 0, none⟩ = some (.int .i64 xn) ∧ w'.cell? ⟨gb, 1, none⟩ = some (.slice A6 x.length c6)) [11] [(0, true), (1, true), (2, true), (3, true), (4, true), (5, true), (6, false), (7, true), (8, false), (9, false), (10, true), (11, false)] (by kernel_rfl) (by kernel_rfl) ?_
      have hS : (fun w' : World => w'.cell? ⟨g, 1, none⟩ = some v ∧ w'.cell? ⟨gb, 0, none⟩ = some (.int .i64 xn) ∧ w'.cell? ⟨gb, 1, none⟩ = some (.slice A6 x.length c6)) wb.drew := ⟨p2, q1, q2⟩
      iterate 6 (refine seq_take hS rfl (fun _ _ _ h => h) (by rfl) (fun w_ hSw => by (try dsimp only at hSw); go_simp; first | done | with_reducible rfl) ?_; (try simp only [Act.put, qqP]))
      refine seq_step rfl (fun K hK => ?_)
      go_simp
      go_at_call 75; refine (c_copyInts (RK_below Ru2.out (below_drew (Below.refl _ _))) hxl).mono ?_; rintro e w1 ⟨u1, K_, rfl, hu, hG, hb⟩
      have HS1 := Aside0.mk (HB.out.drew.new (new_row hu hG hb)); obtain ⟨A5, c5, rfl, hzz⟩ := O_RK hu; have HU := Aside0.mk hu; clear hzz hu hG hb p2 q1 q2 hS
      have p2 := (four (HS1.out.get 2 rfl)).2.1
      obtain ⟨q1, q2⟩ := two (HS1.out.get 1 rfl)
      have hS : (fun w' : World => w'.cell? ⟨g, 1, none⟩ = some v ∧ w'.cell? ⟨gb, 0, none⟩ = some (.int .i64 xn) ∧ w'.cell? ⟨gb, 1, none⟩ = some (.slice A6 x.length c6)) w1 := ⟨p2, q1, q2⟩
      refine hK.out _ _ ⟨fun _ => hS, ?_⟩; clear hK K; (try simp only [Act.put, qqP])
      iterate 1 (refine seq_take hS rfl (fun _ _ _ h => h) (by rfl) (fun w_ hSw => by (try dsimp only at hSw); go_simp; first | done | with_reducible rfl) ?_; (try simp only [Act.put, qqP]))
      refine seq_step rfl (fun K hK => ?_)
      go_simp
      refine hK.out _ _ ⟨fun _ => ⟨cell_alloc p2 _, cell_alloc q1 _, cell_alloc q2 _⟩, ?_⟩; clear hK K; (try simp only [Act.put, qqP])
      refine seq_step rfl (fun K hK => ?_)
      refine step_app (d := oWr) (y := (xn, x)) (HS1.out.sel [4, 0, 1, 2, 3, 5, 6, 7] (by decide) (by simp)) 0 rfl _ _ 87 (.agg #[.int .i64 0, .slice none 0 0]) 32 (by rfl) Tryz.underlying87 (by kernel_rfl) rfl (by decide) (by decide) [.int .i64 xn, .slice A5 x.length c5] ⟨[], K_, [.int .i64 xn], [.slice A5 x.length c5], rfl, rfl, ⟨rfl, rfl⟩, _, rfl, HU.out⟩ (by rfl) (by rfl) (by rfl) (n := i) (by simp; omega) (by omega) ?_
      intro g2 cap2 w2 F2 h2
      have HS2 := Aside0.mk h2
      clear p2 q1 q2 hS
      have p2 := (four (h2.get 2 rfl)).2.1
      obtain ⟨q1, q2⟩ := two (h2.get 1 rfl)
      have fz := blk_frozen (h2.get 2 rfl)
      clear h2
      have hS : (fun w' : World => w'.cell? ⟨g, 1, none⟩ = some v ∧ w'.cell? ⟨gb, 0, none⟩ = some (.int .i64 xn) ∧ w'.cell? ⟨gb, 1, none⟩ = some (.slice A6 x.length c6)) w2 := ⟨p2, q1, q2⟩
      refine hK.out _ _ ⟨fun _ => hS, ?_⟩; clear hK K; (try simp only [Act.put, qqP])
      iterate 1 (refine seq_take hS rfl (fun _ _ _ h => h) (by rfl) (fun w_ hSw => by (try dsimp only at hSw); go_simp; first | done | with_reducible rfl) ?_; (try simp only [Act.put, qqP]))
      clear hS
      refine seq_step rfl (fun K hK => ?_)
      go_simp
      refine hK.out _ _ ⟨(fun h => (by cases h)), ?_⟩; clear hK K; (try simp only [Act.put, qqP])
      refine seq_done ?_
      all_goals
       go_wp2
       go_roundw
       case rel =>
        refine ⟨i + 1, by omega, by go_num, .slice (some ⟨g2, 0, none⟩) (i + 1) cap2, F2, ⟨?_⟩⟩
        rw [take_snoc Hxi.out]
        exact (HS2.out.setb 2 rfl 1 _ rfl).sel [2, 3, 0, 4, 5, 6] (by decide) (by simp)
       case measure => simp [intOf]; omega
     ·obtain rfl : i = m.cache.length := by omega
      rw [List.take_length] at HR
      obtain ⟨B2, d2, rfl, hzz⟩ := O_RK (show oWr.O 126 _ G v m.cache from HR.out.get 2 rfl)
      clear hzz
      obtain ⟨m1, m2, m3, m4⟩ := four (HR.out.get 0 rfl)
      obtain ⟨z1, z2, z3, z4⟩ := four (HR.out.get 4 rfl)
      have fz := blk_frozen (HR.out.get 4 rfl)
      go_wp2
      have HE : Sep w [] _ _ := (((HR.out.setb 4 rfl 0 (.slice B1 m.secs.length d1) rfl).setb 4 rfl 1 (.slice B2 m.cache.length d2) rfl).setb 4 rfl 2 (.bool mf) rfl).setb 4 rfl 3 (.slice A4 m.bad.length c4) rfl
      refine bodyPost_ret (results_cell_row rfl _ _ (w.heap.size + 1) 89 #[.slice B1 m.secs.length d1, .slice B2 m.cache.length d2, .bool mf, .slice A4 m.bad.length c4] (0, 0) _ rfl (HE.get 4 rfl) Tryz.underlying89 rfl (by kernel_rfl)) rfl ?_
      have h9 := (HE.sel [1, 2, 3] (by decide) (by simp)).toMem (m := m)
      rw [Hmf.out] at h9
      exact ⟨_, _, rfl, h9.toNew 0 rfl⟩
end MCopy
namespace MCopyS
open Go.RowKit RJ Go.Proofs.YtggmifnblcjdfaaGreatW.PrintWords Fp FpStep MInt MKinds MRead MMake MPut Go.Proofs.YtggmifnblcjdfaaGreat.Sep SepStep MCopy
attribute [local go_sem ↓] Go.wp_at_zero Go.wp_at_succ
set_option maxHeartbeats 4000000 in
set_option maxRecDepth 100000 in
theorem c_l2Copy {w : World} {v : Value} {m : MemV} (h : MemR w v m) (hs : Small m) :
  Calls Tryz.prog 68 #[v] w fun e w' => ∃ u F, e = .returned u ∧ New w w' (me F u m) := by
 obtain ⟨s, c, b, rfl, r1, r2, r3⟩ := h
 have H1 := Aside0.mk r1
 have H2 := Aside0.mk r2
 have H3 := Aside0.mk r3
 obtain ⟨A1, c1, rfl, _⟩ := r1
 obtain ⟨A2, c2, rfl, _⟩ := r2
 obtain ⟨A3, c3, rfl, _⟩ := r3
 have hb1 := hs.1
 have hb2 := hs.2.2.1
 have hb3 := hs.2.2.2.2
 have HS := Aside0.mk hs
 clear hs
 generalize hmf : m.failed = mf
 have Hmf := Aside0.mk hmf
 clear hmf
 go_enter Tryz.func68, Tryz.ntmps68
 go_upto_region 1 with fail
 go_cut [3] (fun s3 wx => ∃ (g : Nat) (A4 : Option Addr) (c4 : Nat) (F : List Nat), s3 = .pointer (some ⟨g, 0, none⟩) ∧ Aside0 (Sep w [] wx [bx g 89 #[.slice none 0 0, .slice none 0 0, .bool mf, .slice A4 m.bad.length c4], rw_ oInt 3 F (.slice A4 m.bad.length c4) m.bad, bx (w.heap.size + 1) 89 #[.slice none 0 0, .slice none 0 0, .bool false, .slice none 0 0], bx w.heap.size 89 #[.slice A1 m.secs.length c1, .slice A2 m.cache.length c2, .bool mf, .slice A3 m.bad.length c3]]))
 case first =>
  go_region_held3 (fun w' => w'.cell? ⟨w.heap.size, 2, none⟩ = some (.bool mf) ∧ w'.cell? ⟨w.heap.size, 3, none⟩ = some (.slice A3 m.bad.length c3))
   (first
    | with_reducible exact ⟨q3, q4⟩
    | with_reducible exact ⟨far4 (by simp; omega) q3, far4 (by simp; omega) q4⟩
    | with_reducible exact ⟨cell_alloc q3 _, cell_alloc q4 _⟩
    | go_keep)
   (first
    | (refine step_copy (w0 := w) (S := []) .i64 ((((Sep.start w []).alloc (g := w.heap.size) rfl _ _).alloc (g := w.heap.size + 1) (by simp) _ _).drew.lit (g := w.heap.size + 1 + 1) (by simp) oInt 3) (by rfl) _ _ 28 8 (by rfl) Tryz.underlying28 (by kernel_rfl) (by decide) _ m.bad (by rfl) (by rfl) (RK_below H3.out (by repeat (first | exact Below.refl _ _ | apply below_alloc | apply below_drew))) (by omega) ?_; intro A4 c4 w6 F6 HS6; have qm : w6.heap[w.heap.size]? = some (.cells #[.slice A1 m.secs.length c1, .slice A2 m.cache.length c2, .bool mf, .slice A3 m.bad.length c3] 89 (0, 0)) := HS6.get 2 rfl; obtain ⟨q1, q2, q3, q4⟩ := four qm)
    | (refine step_copy (w0 := w) (S := []) .i64 (((((Sep.start w []).alloc (g := w.heap.size) rfl _ _).alloc (g := w.heap.size + 1) (by simp) _ _).drew.alloc (g := w.heap.size + 1 + 1) (by simp) _ _).lit (g := w.heap.size + 1 + 1 + 1) (by simp) oInt 3) (by rfl) _ _ 28 8 (by rfl) Tryz.underlying28 (by kernel_rfl) (by decide) _ m.bad (by rfl) (by rfl) (RK_below H3.out (by repeat (first | exact Below.refl _ _ | apply below_alloc | apply below_drew))) (by omega) ?_; intro A4 c4 w6 F6 HS6; have qm : w6.heap[w.heap.size]? = some (.cells #[.slice A1 m.secs.length c1, .slice A2 m.cache.length c2, .bool mf, .slice A3 m.bad.length c3] 89 (0, 0)) := HS6.get 3 rfl; obtain ⟨q1, q2, q3, q4⟩ := four qm; have gz : w6.heap[w.heap.size + 1 + 1]? = some (.cells #[.slice none 0 0, .slice none 0 0, .bool false, .slice none 0 0] 89 (0, 0)) := HS6.get 1 rfl; obtain ⟨z1, z2, z3, z4⟩ := four gz; have fz := blk_frozen gz; clear gz)
    | (refine step_copy (w0 := w) (S := []) .i64 ((((((Sep.start w []).alloc (g := w.heap.size) rfl _ _).alloc (g := w.heap.size + 1) (by simp) _ _).drew.lit (g := w.heap.size + 1 + 1) (by simp) oInt 3).alloc (g := w.heap.size + 1 + 1 + 1) (by simp) _ _).sel [1, 0, 2, 3] (by decide) (by simp)) (by rfl) _ _ 28 8 (by rfl) Tryz.underlying28 (by kernel_rfl) (by decide) _ m.bad (by rfl) (by rfl) (RK_below H3.out (by repeat (first | exact Below.refl _ _ | apply below_alloc | apply below_drew))) (by omega) ?_; intro A4 c4 w6 F6 HS6; have qm : w6.heap[w.heap.size]? = some (.cells #[.slice A1 m.secs.length c1, .slice A2 m.cache.length c2, .bool mf, .slice A3 m.bad.length c3] 89 (0, 0)) := HS6.get 3 rfl; obtain ⟨q1, q2, q3, q4⟩ := four qm; have gz : w6.heap[w.heap.size + 1 + 1 + 1]? = some (.cells #[.slice none 0 0, .slice none 0 0, .bool false, .slice none 0 0] 89 (0, 0)) := HS6.get 1 rfl; obtain ⟨z1, z2, z3, z4⟩ := four gz; have fz := blk_frozen gz; clear gz)
    | fail)
  all_goals (go_wp2_with fail; go_meet; first | exact ⟨_, A4, c4, F6, rfl, ⟨HS6.alloc rfl _ _⟩⟩ | exact ⟨_, A4, c4, F6, rfl, ⟨((((HS6.setb 1 rfl 0 _ rfl).setb 1 rfl 1 _ rfl).setb 1 rfl 2 _ rfl).setb 1 rfl 3 _ rfl).sel [1, 0, 2, 3] (by decide) (by simp)⟩⟩)
 case rest =>
  obtain ⟨g, A4, c4, F4, rfl, HA⟩ := hcut
  go_wp2
  go_loopw [4] (fun v4 wr => ∃ i : Nat, i ≤ m.secs.length ∧ v4 = .int .i64 i ∧ ∃ (v : Value) (F : List Nat), Aside0 (Sep w [] wr [bx g 89 #[v, .slice none 0 0, .bool mf, .slice A4 m.bad.length c4], rw_ oSec 28 F v (m.secs.take i), rw_ oInt 3 F4 (.slice A4 m.bad.length c4) m.bad, bx (w.heap.size + 1) 89 #[.slice none 0 0, .slice none 0 0, .bool false, .slice none 0 0], bx w.heap.size 89 #[.slice A1 m.secs.length c1, .slice A2 m.cache.length c2, .bool mf, .slice A3 m.bad.length c3]])) (fun v4 _ => m.secs.length - (intOf v4).toNat)
  case atStart => exact ⟨0, by omega, rfl, _, [], ⟨(HA.out.nil oSec 28).sel [1, 0, 2, 3, 4] (by decide) (by simp)⟩⟩
  case round =>
   obtain ⟨i, hi, rfl, v, F, HR⟩ := hrel
   obtain ⟨m1, m2, m3, m4⟩ := four (HR.out.get 4 rfl)
   clear m2 m3 m4
   by_cases hlt : i < m.secs.length
   ·obtain ⟨x, hxi⟩ : ∃ x, m.secs[i]? = some x := ⟨_, List.getElem?_eq_getElem hlt⟩
    obtain ⟨ad, cap, ha, hc⟩ := RK_slices H1.out (by omega)
    cases ha
    obtain ⟨u, cu0, ru⟩ := hc i x hxi
    obtain ⟨A6, c6, rfl, _⟩ := id ru
    have Cu := Aside0.mk cu0
    have cu := HR.out.old cu0
    clear cu0
    have Ru := Aside0.mk ru
    have hxl := HS.out.2.1 x (List.mem_of_getElem? hxi)
    have Hxi := Aside0.mk hxi
    clear hc ru hxi
    have p1 := (four (HR.out.get 0 rfl)).1
    have i0 : (0 : Int) ≤ (i : Int) := by omega
    have i1 : (i : Int) < (m.secs.length : Int) := by omega
    go_wp2
    refine wp_region_seq (fun w' => w'.cell? ⟨g, 0, none⟩ = some v ∧ w'.cell? ⟨w.heap.size, 0, none⟩ = some (.slice (some ad) m.secs.length c1) ∧ w'.cell? (ad.add i) = some (.slice A6 x.length c6)) [12] [(0, true), (1, true), (3, true), (4, true), (5, true), (6, true), (7, true), (2, false), (8, false), (9, false), (10, false), (11, true), (12, false)] (by kernel_rfl) (by kernel_rfl) ?_
    have hS : (fun w' : World => w'.cell? ⟨g, 0, none⟩ = some v ∧ w'.cell? ⟨w.heap.size, 0, none⟩ = some (.slice (some ad) m.secs.length c1) ∧ w'.cell? (ad.add i) = some (.slice A6 x.length c6)) wr.drew := ⟨p1, m1, cu⟩
    iterate 7 (refine seq_take hS rfl (fun _ _ _ h => h) (by rfl) (fun w_ hSw => by (try dsimp only at hSw); go_simp; first | done | with_reducible rfl) ?_; (try simp only [Act.put, qqP]))
    refine seq_step rfl (fun K hK => ?_)
    go_simp
    refine hK.out _ _ ⟨fun _ => ⟨cell_alloc p1 _, cell_alloc m1 _, cell_alloc cu _⟩, ?_⟩; clear hK K; (try simp only [Act.put, qqP])
    refine seq_step rfl (fun K hK => ?_)
    refine step_copy .i64 (HR.out.drew.lit (g := wr.heap.size) rfl oInt 3) (by rfl) _ _ 28 8 (by rfl) Tryz.underlying28 (by kernel_rfl) (by decide) _ x (by rfl) (by rfl) ((HR.out.drew.lit (g := wr.heap.size) rfl oInt 3).rk Ru.out) (by omega) ?_
    intro A5 c5 w1 G h1
    have HS1 := Aside0.mk h1
    clear p1 m1 cu hS
    have p1 := (four (h1.get 1 rfl)).1
    have m1 := (four (h1.get 5 rfl)).1
    have cu := h1.old Cu.out
    have hS : (fun w' : World => w'.cell? ⟨g, 0, none⟩ = some v ∧ w'.cell? ⟨w.heap.size, 0, none⟩ = some (.slice (some ad) m.secs.length c1) ∧ w'.cell? (ad.add i) = some (.slice A6 x.length c6)) w1 := ⟨p1, m1, cu⟩
    clear h1
    refine hK.out _ _ ⟨fun _ => hS, ?_⟩; clear hK K; (try simp only [Act.put, qqP])
    refine seq_step rfl (fun K hK => ?_)
    go_simp
    refine hK.out _ _ ⟨fun _ => ⟨cell_alloc p1 _, cell_alloc m1 _, cell_alloc cu _⟩, ?_⟩; clear hK K; (try simp only [Act.put, qqP])
    refine seq_step rfl (fun K hK => ?_)
    refine step_app (d := oSec) (y := x) (HS1.out.sel [2, 0, 1, 3, 4, 5] (by decide) (by simp)) 0 rfl _ _ 80 (.slice none 0 0) 24 (by rfl) Tryz.underlying80 (by kernel_rfl) rfl (by decide) (by decide) [.slice A5 x.length c5] ⟨_, rfl, HS1.out.get 0 rfl⟩ (by rfl) (by rfl) (by rfl) (n := i) (by simp; omega) (by omega) ?_
    intro g2 cap2 w2 F2 h2
    have HS2 := Aside0.mk h2
    clear p1 m1 cu hS
    have p1 := (four (h2.get 1 rfl)).1
    have m1 := (four (h2.get 4 rfl)).1
    have cu := h2.old Cu.out
    have hS : (fun w' : World => w'.cell? ⟨g, 0, none⟩ = some v ∧ w'.cell? ⟨w.heap.size, 0, none⟩ = some (.slice (some ad) m.secs.length c1) ∧ w'.cell? (ad.add i) = some (.slice A6 x.length c6)) w2 := ⟨p1, m1, cu⟩
    have fz := blk_frozen (h2.get 1 rfl)
    clear h2
    refine hK.out _ _ ⟨fun _ => hS, ?_⟩; clear hK K; (try simp only [Act.put, qqP])
    iterate 1 (refine seq_take hS rfl (fun _ _ _ h => h) (by rfl) (fun w_ hSw => by (try dsimp only at hSw); go_simp; first | done | with_reducible rfl) ?_; (try simp only [Act.put, qqP]))
    clear hS
    refine seq_step rfl (fun K hK => ?_)
    go_simp
    refine hK.out _ _ ⟨(fun h => (by cases h)), ?_⟩; clear hK K; (try simp only [Act.put, qqP])
    refine seq_done ?_
    go_wp2
    go_roundw
    case rel =>
     refine ⟨i + 1, by omega, by go_num, .slice (some ⟨g2, 0, none⟩) (i + 1) cap2, F2, ⟨?_⟩⟩
     rw [take_snoc Hxi.out]
     exact (HS2.out.setb 1 rfl 0 _ rfl).sel [1, 0, 2, 3, 4] (by decide) (by simp)
    case measure => simp [intOf]; omega
   ·obtain rfl : i = m.secs.length := by omega
    rw [List.take_length] at HR
    obtain ⟨B1, d1, rfl, hzz⟩ := O_RK (show oSec.O 28 wr F v m.secs from HR.out.get 1 rfl)
    clear hzz
    go_wp2
    go_loopw [5] (fun v5 ws => ∃ i : Nat, i ≤ m.cache.length ∧ v5 = .int .i64 i ∧ ∃ (v : Value) (G : List Nat), Aside0 (Sep w [] ws [bx g 89 #[.slice B1 m.secs.length d1, v, .bool mf, .slice A4 m.bad.length c4], rw_ oSec 28 F (.slice B1 m.secs.length d1) m.secs, rw_ oWr 126 G v (m.cache.take i), rw_ oInt 3 F4 (.slice A4 m.bad.length c4) m.bad, bx (w.heap.size + 1) 89 #[.slice none 0 0, .slice none 0 0, .bool false, .slice none 0 0], bx w.heap.size 89 #[.slice A1 m.secs.length c1, .slice A2 m.cache.length c2, .bool mf, .slice A3 m.bad.length c3]])) (fun v5 _ => m.cache.length - (intOf v5).toNat)
    case atStart => exact ⟨0, by omega, rfl, _, [], ⟨(HR.out.nil oWr 126).sel [1, 2, 0, 3, 4, 5] (by decide) (by simp)⟩⟩
    case round =>
     obtain ⟨i, hi, rfl, v, G, HR⟩ := hrel
     clear m1
     obtain ⟨m1, m2, m3, m4⟩ := four (HR.out.get 5 rfl)
     clear m1 m3 m4
     by_cases hlt : i < m.cache.length
     ·obtain ⟨⟨xn, x⟩, hxi⟩ : ∃ x, m.cache[i]? = some x := ⟨_, List.getElem?_eq_getElem hlt⟩
      obtain ⟨ad, cap, ha, hc⟩ := RK_wrs H2.out (by omega)
      cases ha
      obtain ⟨u, cn0, cu0, ru⟩ := hc i _ hxi
      obtain ⟨A6, c6, rfl, _⟩ := id ru
      have Ru := Aside0.mk ru
      have Cn := Aside0.mk cn0
      have Cu := Aside0.mk cu0
      have cn := HR.out.old cn0
      have cu := HR.out.old cu0
      have hxl := HS.out.2.2.2.1 _ (List.mem_of_getElem? hxi)
      have Hxi := Aside0.mk hxi
      clear hc ru hxi cn0 cu0
      have p2 := (four (HR.out.get 0 rfl)).2.1
      have i0 : (0 : Int) ≤ (i : Int) := by omega
      have i1 : (i : Int) < (m.cache.length : Int) := by omega
      go_wp2
      refine wp_region_seq (fun w' => w'.cell? ⟨g, 1, none⟩ = some v ∧ w'.cell? ⟨w.heap.size, 1, none⟩ = some (.slice (some ad) m.cache.length c2) ∧ w'.cell? (ad.add (i * 2)) = some (.int .i64 xn) ∧ w'.cell? ⟨(ad.add (i * 2)).block, (ad.add (i * 2)).off + 1, none⟩ = some (.slice A6 x.length c6)) [20] [(0, true), (1, true), (2, true), (3, true), (4, true), (5, true), (6, true), (7, true), (9, true), (10, true), (11, true), (12, true), (13, true), (14, true), (8, false), (15, false), (16, true), (17, false), (18, false), (19, true), (20, false)] (by kernel_rfl) (by kernel_rfl) ?_
      have hS : (fun w' : World => w'.cell? ⟨g, 1, none⟩ = some v ∧ w'.cell? ⟨w.heap.size, 1, none⟩ = some (.slice (some ad) m.cache.length c2) ∧ w'.cell? (ad.add (i * 2)) = some (.int .i64 xn) ∧ w'.cell? ⟨(ad.add (i * 2)).block, (ad.add (i * 2)).off + 1, none⟩ = some (.slice A6 x.length c6)) wr.drew := ⟨p2, m2, cn, cu⟩
      iterate 14 (refine seq_take hS rfl (fun _ _ _ h => h) (by rfl) (fun w_ hSw => by (try dsimp only at hSw); go_simp; first | done | with_reducible rfl) ?_; (try simp only [Act.put, qqP]))
      refine seq_step rfl (fun K hK => ?_)
      go_simp
      refine hK.out _ _ ⟨fun _ => ⟨cell_alloc p2 _, cell_alloc m2 _, cell_alloc cn _, cell_alloc cu _⟩, ?_⟩; clear hK K; (try simp only [Act.put, qqP])
      refine seq_step rfl (fun K hK => ?_)
      refine step_copy .i64 (HR.out.drew.lit (g := wr.heap.size) rfl oInt 3) (by rfl) _ _ 28 8 (by rfl) Tryz.underlying28 (by kernel_rfl) (by decide) _ x (by rfl) (by rfl) ((HR.out.drew.lit (g := wr.heap.size) rfl oInt 3).rk Ru.out) (by omega) ?_
      intro A5 c5 w1 K_ h1
      have HS1 := Aside0.mk h1
      clear p2 m2 cn cu hS
      have p2 := (four (h1.get 1 rfl)).2.1
      have m2 := (four (h1.get 6 rfl)).2.1
      have cn := h1.old Cn.out
      have cu := h1.old Cu.out
      have hS : (fun w' : World => w'.cell? ⟨g, 1, none⟩ = some v ∧ w'.cell? ⟨w.heap.size, 1, none⟩ = some (.slice (some ad) m.cache.length c2) ∧ w'.cell? (ad.add (i * 2)) = some (.int .i64 xn) ∧ w'.cell? ⟨(ad.add (i * 2)).block, (ad.add (i * 2)).off + 1, none⟩ = some (.slice A6 x.length c6)) w1 := ⟨p2, m2, cn, cu⟩
      clear h1
      refine hK.out _ _ ⟨fun _ => hS, ?_⟩; clear hK K; (try simp only [Act.put, qqP])
      iterate 1 (refine seq_take hS rfl (fun _ _ _ h => h) (by rfl) (fun w_ hSw => by (try dsimp only at hSw); go_simp; first | done | with_reducible rfl) ?_; (try simp only [Act.put, qqP]))
      refine seq_step rfl (fun K hK => ?_)
      go_simp
      refine hK.out _ _ ⟨fun _ => ⟨cell_alloc p2 _, cell_alloc m2 _, cell_alloc cn _, cell_alloc cu _⟩, ?_⟩; clear hK K; (try simp only [Act.put, qqP])
      refine seq_step rfl (fun K hK => ?_)
      refine step_app (d := oWr) (y := (xn, x)) (HS1.out.sel [3, 0, 1, 2, 4, 5, 6] (by decide) (by simp)) 0 rfl _ _ 87 (.agg #[.int .i64 0, .slice none 0 0]) 32 (by rfl) Tryz.underlying87 (by kernel_rfl) rfl (by decide) (by decide) [.int .i64 xn, .slice A5 x.length c5] ⟨[], K_, [.int .i64 xn], [.slice A5 x.length c5], rfl, rfl, ⟨rfl, rfl⟩, _, rfl, HS1.out.get 0 rfl⟩ (by rfl) (by rfl) (by rfl) (n := i) (by simp; omega) (by omega) ?_
      intro g2 cap2 w2 F2 h2
      have HS2 := Aside0.mk h2
      clear p2 m2 cn cu hS
      have p2 := (four (h2.get 1 rfl)).2.1
      have m2 := (four (h2.get 5 rfl)).2.1
      have cn := h2.old Cn.out
      have cu := h2.old Cu.out
      have hS : (fun w' : World => w'.cell? ⟨g, 1, none⟩ = some v ∧ w'.cell? ⟨w.heap.size, 1, none⟩ = some (.slice (some ad) m.cache.length c2) ∧ w'.cell? (ad.add (i * 2)) = some (.int .i64 xn) ∧ w'.cell? ⟨(ad.add (i * 2)).block, (ad.add (i * 2)).off + 1, none⟩ = some (.slice A6 x.length c6)) w2 := ⟨p2, m2, cn, cu⟩
      have fz := blk_frozen (h2.get 1 rfl)
      clear h2
      refine hK.out _ _ ⟨fun _ => hS, ?_⟩; clear hK K; (try simp only [Act.put, qqP])
      iterate 1 (refine seq_take hS rfl (fun _ _ _ h => h) (by rfl) (fun w_ hSw => by (try dsimp only at hSw); go_simp; first | done | with_reducible rfl) ?_; (try simp only [Act.put, qqP]))
      clear hS
      refine seq_step rfl (fun K hK => ?_)
      go_simp
      refine hK.out _ _ ⟨(fun h => (by cases h)), ?_⟩; clear hK K; (try simp only [Act.put, qqP])
      refine seq_done ?_
      go_wp2
      go_roundw
      case rel =>
       refine ⟨i + 1, by omega, by go_num, .slice (some ⟨g2, 0, none⟩) (i + 1) cap2, F2, ⟨?_⟩⟩
       rw [take_snoc Hxi.out]
       exact (HS2.out.setb 1 rfl 1 _ rfl).sel [1, 2, 0, 3, 4, 5] (by decide) (by simp)
      case measure => simp [intOf]; omega
     ·obtain rfl : i = m.cache.length := by omega
      rw [List.take_length] at HR
      obtain ⟨B2, d2, rfl, hzz⟩ := O_RK (show oWr.O 126 _ G v m.cache from HR.out.get 2 rfl)
      clear hzz
      obtain ⟨k1, k2, k3, k4⟩ := four (HR.out.get 0 rfl)
      obtain ⟨z1, z2, z3, z4⟩ := four (HR.out.get 4 rfl)
      have fz := blk_frozen (HR.out.get 4 rfl)
      go_wp2
      have HE : Sep w [] _ _ := (((HR.out.setb 4 rfl 0 (.slice B1 m.secs.length d1) rfl).setb 4 rfl 1 (.slice B2 m.cache.length d2) rfl).setb 4 rfl 2 (.bool mf) rfl).setb 4 rfl 3 (.slice A4 m.bad.length c4) rfl
      refine bodyPost_ret (results_cell_row rfl _ _ (w.heap.size + 1) 89 #[.slice B1 m.secs.length d1, .slice B2 m.cache.length d2, .bool mf, .slice A4 m.bad.length c4] (0, 0) _ rfl (HE.get 4 rfl) Tryz.underlying89 rfl (by kernel_rfl)) rfl ?_
      have h9 := (HE.sel [1, 2, 3] (by decide) (by simp)).toMem (m := m)
      rw [Hmf.out] at h9
      exact ⟨_, _, rfl, h9.toNew 0 rfl⟩
end MCopyS
end Go.Proofs.YtggmifnblcjdfaaGreat
