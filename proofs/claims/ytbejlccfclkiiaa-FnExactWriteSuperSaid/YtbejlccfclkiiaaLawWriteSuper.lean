/- The law FnExactWriteSuper: it returns true. -/
import Derived.Test.YtbejlccfclkiiaaLawLib
import Derived.Test.YtbejlccfclkiiaaMSuper
import Derived.Test.YtbejlccfclkiiaaMSuperL
import Derived.Test.YtbejlccfclkiiaaMWSuper
import Derived.Test.YtbejlccfclkiiaaMWSuperTot
import Derived.Deep.DrawnRows
namespace Go.Proofs.Ytbejlccfclkiiaa.LawWriteSuper
open Go.RowKit Go.Proofs.Ytbejlccfclkiiaa.RJ Go.Proofs.YtbejlccfclkiiaaW.PrintWords Go.Proofs.Ytbejlccfclkiiaa.Fp Go.Proofs.Ytbejlccfclkiiaa.MInt Go.Proofs.Ytbejlccfclkiiaa.MKinds Go.Proofs.Ytbejlccfclkiiaa.MRead Go.Proofs.Ytbejlccfclkiiaa.MMake Go.Proofs.Ytbejlccfclkiiaa.MPut Go.Proofs.Ytbejlccfclkiiaa.MHeld Go.Proofs.Ytbejlccfclkiiaa.MMark Go.Proofs.Ytbejlccfclkiiaa.MOk Go.Proofs.Ytbejlccfclkiiaa.MVal Go.Proofs.Ytbejlccfclkiiaa.Sep Go.Proofs.Ytbejlccfclkiiaa.SepStep Go.Proofs.Ytbejlccfclkiiaa.LawLib Go.Proofs.Ytbejlccfclkiiaa.MSuper Go.Proofs.Ytbejlccfclkiiaa.MSuperL Go.Proofs.Ytbejlccfclkiiaa.MWSuper
set_option linter.unusedVariables false
set_option linter.unusedSimpArgs false
attribute [local go_sem ↓] Go.wp_at_zero Go.wp_at_succ
set_option maxHeartbeats 8000000 in
set_option maxRecDepth 100000 in
theorem law_WriteSuper {w : World} {v : Value} {m : MemV} (h : MemR w v m) (id gen role n st tail lost built : Int) : Calls Try.prog 10 #[v, .agg #[.int .i64 id, .int .i64 gen, .int .i64 role, .int .i64 n, .int .i64 st, .int .i64 tail, .int .i64 lost, .int .i64 built]] w fun e w' => e = .returned (.bool true) ∧ Below w.heap.size w w' := by
  have H := Aside0.mk h
  obtain ⟨s, c, b, rfl, r1, r2, r3⟩ := h
  clear r1 r2 r3
  by_cases hz : (1048576 : Int) - (szM m : Int) < 0
  · go_enter Try.func10, Try.ntmps10
    go_wp2_with (first
      | (go_at_call 20; refine (c_szMem (MemR_below H.out (below_alloc (below_alloc (Below.refl _ _) _) _)) (by omega) (by omega)).mono ?_; rw [sub0_neg (by omega)]; rintro e w1 ⟨rfl, hb⟩; have HS1 := Aside0.mk ((((Sep.start w []).alloc (g := w.heap.size) rfl #[s, c, .bool m.failed, b] 33).alloc (g := w.heap.size + 1) (by simp) #[.int .i64 id, .int .i64 gen, .int .i64 role, .int .i64 n, .int .i64 st, .int .i64 tail, .int .i64 lost, .int .i64 built] 53).below hb); clear hb)
      | fail)
    go_ret
    exact ⟨rfl, HS1.out.toBelow⟩
  · have hsz : totM m ≤ 1048576 := by have := totM_szM m; omega
    have hsm : Small m := small_of m (by omega)
    have HSm := Aside0.mk hsm
    clear hsm
    go_enter Try.func10, Try.ntmps10
    go_upto_region 5 with (first
      | (go_at_call 20; refine (c_szMem (MemR_below H.out (below_alloc (below_alloc (Below.refl _ _) _) _)) (by omega) (by omega)).mono ?_; rw [sub0_pos (by omega)]; rintro e w1 ⟨rfl, hb⟩; have HS1 := Aside0.mk ((((Sep.start w []).alloc (g := w.heap.size) rfl #[s, c, .bool m.failed, b] 33).alloc (g := w.heap.size + 1) (by simp) #[.int .i64 id, .int .i64 gen, .int .i64 role, .int .i64 n, .int .i64 st, .int .i64 tail, .int .i64 lost, .int .i64 built] 53).below hb); clear hb)
      | fail)
    obtain ⟨a0_, a1_, a2_, a3_⟩ := four (HS1.out.get 1 rfl)
    obtain ⟨V, HV⟩ : ∃ V, Aside0 (wsupV m ⟨id, gen, role, n, st, tail, lost, built⟩ = V) := ⟨_, ⟨rfl⟩⟩
    have htot : totM V ≤ 4194304 := (by rw [← HV.out]; have := wsupV_tot m ⟨id, gen, role, n, st, tail, lost, built⟩; omega)
    clear a0_ a1_ a2_ a3_
    obtain ⟨a0, a1, a2, a3⟩ := four (HS1.out.get 1 rfl)
    obtain ⟨l0, l1, l2, l3, l4, l5, l6, l7⟩ := eight (HS1.out.get 0 rfl)
    have Hall := Aside0.mk (show ∀ w' : World, Below w1.heap.size w1 w' → (w'.cell? ⟨w.heap.size, 0, none⟩ = some (s) ∧ w'.cell? ⟨w.heap.size, 1, none⟩ = some (c) ∧ w'.cell? ⟨w.heap.size, 2, none⟩ = some (.bool m.failed) ∧ w'.cell? ⟨w.heap.size, 3, none⟩ = some (b) ∧ w'.cell? ⟨w.heap.size + 1, 0, none⟩ = some (.int .i64 id) ∧ w'.cell? ⟨w.heap.size + 1, 1, none⟩ = some (.int .i64 gen) ∧ w'.cell? ⟨w.heap.size + 1, 2, none⟩ = some (.int .i64 role) ∧ w'.cell? ⟨w.heap.size + 1, 3, none⟩ = some (.int .i64 n) ∧ w'.cell? ⟨w.heap.size + 1, 4, none⟩ = some (.int .i64 st) ∧ w'.cell? ⟨w.heap.size + 1, 5, none⟩ = some (.int .i64 tail) ∧ w'.cell? ⟨w.heap.size + 1, 6, none⟩ = some (.int .i64 lost) ∧ w'.cell? ⟨w.heap.size + 1, 7, none⟩ = some (.int .i64 built)) from fun w' hb => ⟨(hb.cell (lt_of_cell a0)).trans a0, (hb.cell (lt_of_cell a1)).trans a1, (hb.cell (lt_of_cell a2)).trans a2, (hb.cell (lt_of_cell a3)).trans a3, (hb.cell (lt_of_cell l0)).trans l0, (hb.cell (lt_of_cell l1)).trans l1, (hb.cell (lt_of_cell l2)).trans l2, (hb.cell (lt_of_cell l3)).trans l3, (hb.cell (lt_of_cell l4)).trans l4, (hb.cell (lt_of_cell l5)).trans l5, (hb.cell (lt_of_cell l6)).trans l6, (hb.cell (lt_of_cell l7)).trans l7⟩)
    clear a0 a1 a2 a3 l0 l1 l2 l3 l4 l5 l6 l7
    have HBx : Below w1.heap.size w1 w1 := Below.refl _ _
    have hge : w1.heap.size ≤ w1.heap.size := Nat.le_refl _
    have HS := (Sep.start w1 []).drew
    go_upto_region 5 with fail
    go_cut [6] (fun sx wx => ∃ (g : Nat) (F : List Nat) (B1 : Option Addr) (d1 : Nat) (B2 : Option Addr) (d2 : Nat) (B3 : Option Addr) (d3 : Nat), sx = .pointer (some ⟨g, 0, none⟩) ∧ Aside0 (Sep w1 [] wx [bx g 26 #[.slice B1 V.secs.length d1, .slice B2 V.cache.length d2, .bool V.failed, .slice B3 V.bad.length d3], me F (.agg #[.slice B1 V.secs.length d1, .slice B2 V.cache.length d2, .bool V.failed, .slice B3 V.bad.length d3]) V]))
    case first =>
      go_region_held3 (fun w' => w'.cell? ⟨w.heap.size, 0, none⟩ = some (s) ∧ w'.cell? ⟨w.heap.size, 1, none⟩ = some (c) ∧ w'.cell? ⟨w.heap.size, 2, none⟩ = some (.bool m.failed) ∧ w'.cell? ⟨w.heap.size, 3, none⟩ = some (b) ∧ w'.cell? ⟨w.heap.size + 1, 0, none⟩ = some (.int .i64 id) ∧ w'.cell? ⟨w.heap.size + 1, 1, none⟩ = some (.int .i64 gen) ∧ w'.cell? ⟨w.heap.size + 1, 2, none⟩ = some (.int .i64 role) ∧ w'.cell? ⟨w.heap.size + 1, 3, none⟩ = some (.int .i64 n) ∧ w'.cell? ⟨w.heap.size + 1, 4, none⟩ = some (.int .i64 st) ∧ w'.cell? ⟨w.heap.size + 1, 5, none⟩ = some (.int .i64 tail) ∧ w'.cell? ⟨w.heap.size + 1, 6, none⟩ = some (.int .i64 lost) ∧ w'.cell? ⟨w.heap.size + 1, 7, none⟩ = some (.int .i64 built))
        ((refine Hall.out _ ?_; repeat (first | exact HBx | apply below_alloc | apply below_drew | refine below_set ?_ hge | refine below_set ?_ (Nat.le_refl _))))
        (first
          | (go_at_call 22; refine (c_toMem (MemR_below H.out (HS1.out.toBelow.trans ((by (repeat (first | exact HBx | apply below_alloc | apply below_drew)) : Below w1.heap.size w1 _).mono HS1.out.toBelow.size))) HSm.out).mono ?_; rintro e wt ⟨ut, Ft, rfl, hu, hF, hb⟩; (first | (have HN := HS.new (new_mem hu hF hb)) | (have HN := (HS.alloc (g := w1.heap.size) rfl #[.slice none 0 0, .slice none 0 0, .bool false, .slice none 0 0] 26).new (new_mem hu hF hb); have hge := HBx.size) | (have HN := (HS.alloc rfl #[.slice none 0 0, .slice none 0 0, .bool false, .slice none 0 0] 26).new (new_mem hu hF hb); have hge := HBx.size)); clear hu hF hb; replace HBx := HN.toBelow; clear HS; have HS := HN; clear HN)
          | (go_at_call 40; refine (c_toSuper _ _ _ _ _ _ _ _ _).mono ?_; rintro e wp ⟨rfl, hb⟩; (first | (have HN := HS.below hb) | (have HN := (HS.alloc (g := w1.heap.size) rfl #[.slice none 0 0, .slice none 0 0, .bool false, .slice none 0 0] 26).below hb; have hge := HBx.size) | (have HN := (HS.alloc rfl #[.slice none 0 0, .slice none 0 0, .bool false, .slice none 0 0] 26).below hb; have hge := HBx.size)); clear hb; replace HBx := HN.toBelow; clear HS; have HS := HN; clear HN)
          | (go_at_call 39; (first | (refine (c_specWriteSuper _ _ _ _ _ _ _ _ (MemO_R (HS.get 0 rfl)) HSm.out).mono ?_) | (refine (c_specWriteSuper _ _ _ _ _ _ _ _ (MemO_R (HS.get 1 rfl)) HSm.out).mono ?_) | (refine (c_specWriteSuper _ _ _ _ _ _ _ _ (MemO_R ((HS.alloc rfl #[.slice none 0 0, .slice none 0 0, .bool false, .slice none 0 0] 26).get 1 rfl)) HSm.out).mono ?_)); rintro e wv ⟨uv, Fv, rfl, hn⟩; rw [HV.out] at hn; (first | (have HN := HS.new hn) | (have HN := (HS.alloc (g := w1.heap.size) rfl #[.slice none 0 0, .slice none 0 0, .bool false, .slice none 0 0] 26).new hn; have hge := HBx.size) | (have HN := (HS.alloc rfl #[.slice none 0 0, .slice none 0 0, .bool false, .slice none 0 0] 26).new hn; have hge := HBx.size)); obtain ⟨B1, d1, B2, d2, B3, d3, rfl⟩ := me_form HN; replace HBx := HN.toBelow; clear HS hn; (try (have gz := blk_frozen (HN.get 1 rfl); obtain ⟨y0, y1, y2, y3⟩ := four (HN.get 1 rfl))); (try (have gz := blk_frozen (HN.get 2 rfl); obtain ⟨y0, y1, y2, y3⟩ := four (HN.get 2 rfl))))
          | fail)
      all_goals (go_wp2_with fail; go_meet; first | exact ⟨_, Fv, B1, d1, B2, d2, B3, d3, rfl, ⟨(HN.alloc rfl #[.slice B1 V.secs.length d1, .slice B2 V.cache.length d2, .bool V.failed, .slice B3 V.bad.length d3] 26).sel [0, 1] (by decide) (by simp)⟩⟩ | exact ⟨_, Fv, B1, d1, B2, d2, B3, d3, rfl, ⟨((((HN.setb 1 rfl 0 (.slice B1 V.secs.length d1) rfl).setb 1 rfl 1 (.slice B2 V.cache.length d2) rfl).setb 1 rfl 2 (.bool V.failed) rfl).setb 1 rfl 3 (.slice B3 V.bad.length d3) rfl).sel [1, 0] (by decide) (by simp)⟩⟩ | exact ⟨_, Fv, B1, d1, B2, d2, B3, d3, rfl, ⟨((((HN.setb 2 rfl 0 (.slice B1 V.secs.length d1) rfl).setb 2 rfl 1 (.slice B2 V.cache.length d2) rfl).setb 2 rfl 2 (.bool V.failed) rfl).setb 2 rfl 3 (.slice B3 V.bad.length d3) rfl).sel [2, 0] (by decide) (by simp)⟩⟩)
    case' rest => skip
    obtain ⟨g2, F2, A2, p2, B2, q2, C2, r2, rfl, HC⟩ := hcut
    have hB := Sep.comp HS1.out HC.out
    simp only [List.cons_append, List.nil_append] at hB
    have HS2 := Aside0.mk hB
    clear hB HC HBx hge HS Hall
    rename World => w2
    obtain ⟨a0_, a1_, a2_, a3_⟩ := four (HS2.out.get 3 rfl)
    go_upto_region 7 with (first
      | (go_at_call 22; refine (c_toMem (MemR_below H.out HS2.out.toBelow) HSm.out).mono ?_; rintro e w3 ⟨u3, F3, rfl, hu, hF, hb⟩; have HS3 := Aside0.mk (HS2.out.new (new_mem hu hF hb)); clear hu hF hb; obtain ⟨A3, p3, B3, q3, C3, r3, rfl⟩ := me_form HS3.out)
      | fail)
    have hB := HS3.out.alloc (g := w3.heap.size) rfl #[.slice A3 m.secs.length p3, .slice B3 m.cache.length q3, .bool m.failed, .slice C3 m.bad.length r3] 26
    generalize hgg : w3.heap.size = g4 at *
    generalize hww : w3.alloc (.cells #[.slice A3 m.secs.length p3, .slice B3 m.cache.length q3, .bool m.failed, .slice C3 m.bad.length r3] 26 (0, 0)) = w4 at *
    have HS4 := Aside0.mk hB
    clear hB hgg hww
    have hB := HS4.out.sel [0, 1, 2, 3, 4, 5] (by decide) (by simp)
    simp only [List.map_cons, List.map_nil, pick, List.getD_cons_succ, List.getD_cons_zero, List.set_cons_zero, List.set_cons_succ, List.eraseIdx_cons_zero, List.eraseIdx_cons_succ, List.setIfInBounds_toArray] at hB
    have HS5 := Aside0.mk hB
    clear hB
    clear a0_ a1_ a2_ a3_; obtain ⟨x00_, x01_, x02_, x03_⟩ := four (HS5.out.get 0 rfl)
    clear x00_ x01_ x02_ x03_
    obtain ⟨a0, a1, a2, a3⟩ := four (HS5.out.get 5 rfl)
    obtain ⟨l0, l1, l2, l3, l4, l5, l6, l7⟩ := eight (HS5.out.get 4 rfl)
    obtain ⟨x0, x1, x2, x3⟩ := four (HS5.out.get 0 rfl)
    have Hall := Aside0.mk (show ∀ w' : World, Below w4.heap.size w4 w' → (w'.cell? ⟨g4, 0, none⟩ = some (.slice A3 m.secs.length p3) ∧ w'.cell? ⟨g4, 1, none⟩ = some (.slice B3 m.cache.length q3) ∧ w'.cell? ⟨g4, 2, none⟩ = some (.bool m.failed) ∧ w'.cell? ⟨g4, 3, none⟩ = some (.slice C3 m.bad.length r3) ∧ w'.cell? ⟨w.heap.size + 1, 0, none⟩ = some (.int .i64 id) ∧ w'.cell? ⟨w.heap.size + 1, 1, none⟩ = some (.int .i64 gen) ∧ w'.cell? ⟨w.heap.size + 1, 2, none⟩ = some (.int .i64 role) ∧ w'.cell? ⟨w.heap.size + 1, 3, none⟩ = some (.int .i64 n) ∧ w'.cell? ⟨w.heap.size + 1, 4, none⟩ = some (.int .i64 st) ∧ w'.cell? ⟨w.heap.size + 1, 5, none⟩ = some (.int .i64 tail) ∧ w'.cell? ⟨w.heap.size + 1, 6, none⟩ = some (.int .i64 lost) ∧ w'.cell? ⟨w.heap.size + 1, 7, none⟩ = some (.int .i64 built)) from fun w' hb => ⟨(hb.cell (lt_of_cell x0)).trans x0, (hb.cell (lt_of_cell x1)).trans x1, (hb.cell (lt_of_cell x2)).trans x2, (hb.cell (lt_of_cell x3)).trans x3, (hb.cell (lt_of_cell l0)).trans l0, (hb.cell (lt_of_cell l1)).trans l1, (hb.cell (lt_of_cell l2)).trans l2, (hb.cell (lt_of_cell l3)).trans l3, (hb.cell (lt_of_cell l4)).trans l4, (hb.cell (lt_of_cell l5)).trans l5, (hb.cell (lt_of_cell l6)).trans l6, (hb.cell (lt_of_cell l7)).trans l7⟩)
    clear a0 a1 a2 a3 l0 l1 l2 l3 l4 l5 l6 l7 x0 x1 x2 x3
    have HBx : Below w4.heap.size w4 w4 := Below.refl _ _
    have hge : w4.heap.size ≤ w4.heap.size := Nat.le_refl _
    have HS := (Sep.start w4 []).drew
    go_upto_region 7 with fail
    go_cut [8] (fun sx wx => ∃ (g : Nat) (F : List Nat) (B1 : Option Addr) (d1 : Nat) (B2 : Option Addr) (d2 : Nat) (B3 : Option Addr) (d3 : Nat), sx = .pointer (some ⟨g, 0, none⟩) ∧ Aside0 (Sep w4 [] wx [bx g 26 #[.slice B1 V.secs.length d1, .slice B2 V.cache.length d2, .bool V.failed, .slice B3 V.bad.length d3], me F (.agg #[.slice B1 V.secs.length d1, .slice B2 V.cache.length d2, .bool V.failed, .slice B3 V.bad.length d3]) V]))
    case first =>
      go_region_held3 (fun w' => w'.cell? ⟨g4, 0, none⟩ = some (.slice A3 m.secs.length p3) ∧ w'.cell? ⟨g4, 1, none⟩ = some (.slice B3 m.cache.length q3) ∧ w'.cell? ⟨g4, 2, none⟩ = some (.bool m.failed) ∧ w'.cell? ⟨g4, 3, none⟩ = some (.slice C3 m.bad.length r3) ∧ w'.cell? ⟨w.heap.size + 1, 0, none⟩ = some (.int .i64 id) ∧ w'.cell? ⟨w.heap.size + 1, 1, none⟩ = some (.int .i64 gen) ∧ w'.cell? ⟨w.heap.size + 1, 2, none⟩ = some (.int .i64 role) ∧ w'.cell? ⟨w.heap.size + 1, 3, none⟩ = some (.int .i64 n) ∧ w'.cell? ⟨w.heap.size + 1, 4, none⟩ = some (.int .i64 st) ∧ w'.cell? ⟨w.heap.size + 1, 5, none⟩ = some (.int .i64 tail) ∧ w'.cell? ⟨w.heap.size + 1, 6, none⟩ = some (.int .i64 lost) ∧ w'.cell? ⟨w.heap.size + 1, 7, none⟩ = some (.int .i64 built))
        ((refine Hall.out _ ?_; repeat (first | exact HBx | apply below_alloc | apply below_drew | refine below_set ?_ hge | refine below_set ?_ (Nat.le_refl _))))
        (first
          | (go_at_call 40; refine (c_toSuper _ _ _ _ _ _ _ _ _).mono ?_; rintro e wp ⟨rfl, hb⟩; (first | (have HN := HS.below hb) | (have HN := (HS.alloc (g := w4.heap.size) rfl #[.slice none 0 0, .slice none 0 0, .bool false, .slice none 0 0] 26).below hb; have hge := HBx.size) | (have HN := (HS.alloc rfl #[.slice none 0 0, .slice none 0 0, .bool false, .slice none 0 0] 26).below hb; have hge := HBx.size)); clear hb; replace HBx := HN.toBelow; clear HS; have HS := HN; clear HN)
          | (go_at_call 41; (first | (refine (c_implWriteSuper _ _ _ _ _ _ _ _ (MemR_below (MemO_R (HS5.out.get 1 rfl)) (by repeat (first | exact HBx | apply below_alloc | apply below_drew))) HSm.out).mono ?_)); rintro e wv ⟨uv, Fv, rfl, hn⟩; rw [HV.out] at hn; (first | (have HN := HS.new hn) | (have HN := (HS.alloc (g := w4.heap.size) rfl #[.slice none 0 0, .slice none 0 0, .bool false, .slice none 0 0] 26).new hn; have hge := HBx.size) | (have HN := (HS.alloc rfl #[.slice none 0 0, .slice none 0 0, .bool false, .slice none 0 0] 26).new hn; have hge := HBx.size)); obtain ⟨B1, d1, B2, d2, B3, d3, rfl⟩ := me_form HN; replace HBx := HN.toBelow; clear HS hn; (try (have gz := blk_frozen (HN.get 1 rfl); obtain ⟨y0, y1, y2, y3⟩ := four (HN.get 1 rfl))); (try (have gz := blk_frozen (HN.get 2 rfl); obtain ⟨y0, y1, y2, y3⟩ := four (HN.get 2 rfl))))
          | fail)
      all_goals (go_wp2_with fail; go_meet; first | exact ⟨_, Fv, B1, d1, B2, d2, B3, d3, rfl, ⟨(HN.alloc rfl #[.slice B1 V.secs.length d1, .slice B2 V.cache.length d2, .bool V.failed, .slice B3 V.bad.length d3] 26).sel [0, 1] (by decide) (by simp)⟩⟩ | exact ⟨_, Fv, B1, d1, B2, d2, B3, d3, rfl, ⟨((((HN.setb 1 rfl 0 (.slice B1 V.secs.length d1) rfl).setb 1 rfl 1 (.slice B2 V.cache.length d2) rfl).setb 1 rfl 2 (.bool V.failed) rfl).setb 1 rfl 3 (.slice B3 V.bad.length d3) rfl).sel [1, 0] (by decide) (by simp)⟩⟩ | exact ⟨_, Fv, B1, d1, B2, d2, B3, d3, rfl, ⟨((((HN.setb 2 rfl 0 (.slice B1 V.secs.length d1) rfl).setb 2 rfl 1 (.slice B2 V.cache.length d2) rfl).setb 2 rfl 2 (.bool V.failed) rfl).setb 2 rfl 3 (.slice B3 V.bad.length d3) rfl).sel [2, 0] (by decide) (by simp)⟩⟩)
    case' rest => skip
    obtain ⟨g6, F6, A6, p6, B6, q6, C6, r6, rfl, HC⟩ := hcut
    have hB := Sep.comp HS5.out HC.out
    simp only [List.cons_append, List.nil_append] at hB
    have HS6 := Aside0.mk hB
    clear hB HC HBx hge HS Hall
    rename World => w6
    obtain ⟨g00_, g01_, g02_, g03_⟩ := four (HS6.out.get 0 rfl); obtain ⟨w00_, w01_, w02_, w03_⟩ := four (HS6.out.get 4 rfl)
    go_upto_region 10 with (first
      | (go_at_call 17; refine (c_eqMem (MemO_R (HS6.out.get 1 rfl)) (MemO_R (HS6.out.get 5 rfl))).mono ?_; rw [decide_eq_true rfl]; rintro e w7 ⟨rfl, hb⟩; have HS7 := Aside0.mk (HS6.out.below hb); clear hb; clear g00_ g01_ g02_ g03_ w00_ w01_ w02_ w03_; obtain ⟨x00_, x01_, x02_, x03_⟩ := four (HS7.out.get 2 rfl); obtain ⟨a0_, a1_, a2_, a3_⟩ := four (HS7.out.get 7 rfl))
      | fail)
    go_wp2
    refine wp_region_seq (fun w' => w'.cell? ⟨g4, 0, none⟩ = some (.slice A3 m.secs.length p3) ∧ w'.cell? ⟨g4, 1, none⟩ = some (.slice B3 m.cache.length q3) ∧ w'.cell? ⟨g4, 2, none⟩ = some (.bool m.failed) ∧ w'.cell? ⟨g4, 3, none⟩ = some (.slice C3 m.bad.length r3) ∧ w'.cell? ⟨w.heap.size, 0, none⟩ = some (s) ∧ w'.cell? ⟨w.heap.size, 1, none⟩ = some (c) ∧ w'.cell? ⟨w.heap.size, 2, none⟩ = some (.bool m.failed) ∧ w'.cell? ⟨w.heap.size, 3, none⟩ = some (b)) [] [(0, true), (1, true), (2, false), (3, false), (4, true)] (by kernel_rfl) (by kernel_rfl) ?_
    have hS : (fun w' : World => w'.cell? ⟨g4, 0, none⟩ = some (.slice A3 m.secs.length p3) ∧ w'.cell? ⟨g4, 1, none⟩ = some (.slice B3 m.cache.length q3) ∧ w'.cell? ⟨g4, 2, none⟩ = some (.bool m.failed) ∧ w'.cell? ⟨g4, 3, none⟩ = some (.slice C3 m.bad.length r3) ∧ w'.cell? ⟨w.heap.size, 0, none⟩ = some (s) ∧ w'.cell? ⟨w.heap.size, 1, none⟩ = some (c) ∧ w'.cell? ⟨w.heap.size, 2, none⟩ = some (.bool m.failed) ∧ w'.cell? ⟨w.heap.size, 3, none⟩ = some (b)) w7.drew := ⟨x00_, x01_, x02_, x03_, a0_, a1_, a2_, a3_⟩
    iterate 2 (refine seq_take hS rfl (fun _ _ _ h => h) (by rfl) (fun w_ hSw => by (try dsimp only at hSw); go_simp; first | done | with_reducible rfl) ?_; (try simp only [Act.put, List.setIfInBounds_toArray, List.set_cons_zero, List.set_cons_succ]))
    refine seq_step rfl (fun K hK => ?_)
    go_simp
    go_at_call 22; refine (c_toMem (MemR_below H.out HS7.out.drew.toBelow) HSm.out).mono ?_; rintro e w8 ⟨u8, F8, rfl, hu, hF, hb⟩
    have HS8 := Aside0.mk (HS7.out.drew.new (new_mem hu hF hb))
    clear hu hF hb hS
    clear x00_ x01_ x02_ x03_ a0_ a1_ a2_ a3_; obtain ⟨x00_, x01_, x02_, x03_⟩ := four (HS8.out.get 3 rfl); obtain ⟨a0_, a1_, a2_, a3_⟩ := four (HS8.out.get 8 rfl)
    have hS : (fun w' : World => w'.cell? ⟨g4, 0, none⟩ = some (.slice A3 m.secs.length p3) ∧ w'.cell? ⟨g4, 1, none⟩ = some (.slice B3 m.cache.length q3) ∧ w'.cell? ⟨g4, 2, none⟩ = some (.bool m.failed) ∧ w'.cell? ⟨g4, 3, none⟩ = some (.slice C3 m.bad.length r3) ∧ w'.cell? ⟨w.heap.size, 0, none⟩ = some (s) ∧ w'.cell? ⟨w.heap.size, 1, none⟩ = some (c) ∧ w'.cell? ⟨w.heap.size, 2, none⟩ = some (.bool m.failed) ∧ w'.cell? ⟨w.heap.size, 3, none⟩ = some (b)) w8 := ⟨x00_, x01_, x02_, x03_, a0_, a1_, a2_, a3_⟩
    refine hK.out _ _ ⟨fun _ => hS, ?_⟩; clear hK K; (try simp only [Act.put, List.setIfInBounds_toArray, List.set_cons_zero, List.set_cons_succ])
    refine seq_step rfl (fun K hK => ?_)
    go_simp
    go_at_call 17; refine (c_eqMem (MemO_R (HS8.out.get 4 rfl)) (MemO_R (HS8.out.get 0 rfl))).mono ?_; rw [decide_eq_true rfl]; rintro e w9 ⟨rfl, hb⟩
    have HS9 := Aside0.mk (HS8.out.below hb)
    clear hb hS
    clear x00_ x01_ x02_ x03_ a0_ a1_ a2_ a3_; obtain ⟨x00_, x01_, x02_, x03_⟩ := four (HS9.out.get 3 rfl); obtain ⟨a0_, a1_, a2_, a3_⟩ := four (HS9.out.get 8 rfl)
    have hS : (fun w' : World => w'.cell? ⟨g4, 0, none⟩ = some (.slice A3 m.secs.length p3) ∧ w'.cell? ⟨g4, 1, none⟩ = some (.slice B3 m.cache.length q3) ∧ w'.cell? ⟨g4, 2, none⟩ = some (.bool m.failed) ∧ w'.cell? ⟨g4, 3, none⟩ = some (.slice C3 m.bad.length r3) ∧ w'.cell? ⟨w.heap.size, 0, none⟩ = some (s) ∧ w'.cell? ⟨w.heap.size, 1, none⟩ = some (c) ∧ w'.cell? ⟨w.heap.size, 2, none⟩ = some (.bool m.failed) ∧ w'.cell? ⟨w.heap.size, 3, none⟩ = some (b)) w9 := ⟨x00_, x01_, x02_, x03_, a0_, a1_, a2_, a3_⟩
    refine hK.out _ _ ⟨fun _ => hS, ?_⟩; clear hK K; (try simp only [Act.put, List.setIfInBounds_toArray, List.set_cons_zero, List.set_cons_succ])
    iterate 1 (refine seq_take hS rfl (fun _ _ _ h => h) (by rfl) (fun w_ hSw => by (try dsimp only at hSw); go_simp; first | done | with_reducible rfl) ?_; (try simp only [Act.put, List.setIfInBounds_toArray, List.set_cons_zero, List.set_cons_succ]))
    clear hS
    refine seq_done ?_
    have hB := HS9.out.sel [1, 2, 3, 4, 5, 6, 7, 8] (by decide) (by simp)
    simp only [List.map_cons, List.map_nil, pick, List.getD_cons_succ, List.getD_cons_zero, List.set_cons_zero, List.set_cons_succ, List.eraseIdx_cons_zero, List.eraseIdx_cons_succ, List.setIfInBounds_toArray] at hB
    have HS10 := Aside0.mk hB
    clear hB
    clear x00_ x01_ x02_ x03_ a0_ a1_ a2_ a3_; obtain ⟨x00_, x01_, x02_, x03_⟩ := four (HS10.out.get 2 rfl)
    go_upto_region 13 with fail
    go_upto_region 14 with (first
      | (go_at_call 18; refine (c_markMem (HS10.out.get 3 rfl) (HS10.out.fnd 3 rfl) (by omega) (by omega)).mono ?_; rintro e w11 ⟨rfl, ⟨F11, hu, hF, hs⟩, hc⟩; have hB := HS10.out.upd 3 rfl (upd_mark hu hF hs hc); simp only [List.map_cons, List.map_nil, pick, List.getD_cons_succ, List.getD_cons_zero, List.set_cons_zero, List.set_cons_succ, List.eraseIdx_cons_zero, List.eraseIdx_cons_succ, List.setIfInBounds_toArray] at hB; have HS11 := Aside0.mk hB; clear hB hu hF hs hc; clear x00_ x01_ x02_ x03_; obtain ⟨g00_, g01_, g02_, g03_⟩ := four (HS11.out.get 0 rfl); obtain ⟨w00_, w01_, w02_, w03_⟩ := four (HS11.out.get 4 rfl))
      | fail)
    go_upto_region 17 with (first
      | (go_at_call 17; refine (c_eqMem (MemO_R (HS11.out.get 1 rfl)) (MemO_R (HS11.out.get 5 rfl))).mono ?_; rw [decide_eq_true rfl]; rintro e w12 ⟨rfl, hb⟩; have HS12 := Aside0.mk (HS11.out.below hb); clear hb; clear g00_ g01_ g02_ g03_ w00_ w01_ w02_ w03_; obtain ⟨g00_, g01_, g02_, g03_⟩ := four (HS12.out.get 0 rfl))
      | fail)
    go_upto_region 19 with (first
      | (go_at_call 18; refine (c_markMem (HS12.out.get 1 rfl) (HS12.out.fnd 1 rfl) (by omega) (by have := htot; omega)).mono ?_; rintro e w13 ⟨rfl, ⟨F13, hu, hF, hs⟩, hc⟩; have hB := HS12.out.upd 1 rfl (upd_mark hu hF hs hc); simp only [List.map_cons, List.map_nil, pick, List.getD_cons_succ, List.getD_cons_zero, List.set_cons_zero, List.set_cons_succ, List.eraseIdx_cons_zero, List.eraseIdx_cons_succ, List.setIfInBounds_toArray] at hB; have HS13 := Aside0.mk hB; clear hB hu hF hs hc; clear g00_ g01_ g02_ g03_; obtain ⟨g00_, g01_, g02_, g03_⟩ := four (HS13.out.get 0 rfl))
      | fail)
    go_upto_region 24 with (first
      | (go_at_call 19; refine (c_heldMem (MemO_R (HS13.out.get 1 rfl)) (by omega) (by have := htot; omega)).mono ?_; rintro e w14 ⟨rfl, hb⟩; have HS14 := Aside0.mk (HS13.out.below hb); clear hb; clear g00_ g01_ g02_ g03_; obtain ⟨a0_, a1_, a2_, a3_⟩ := four (HS14.out.get 7 rfl))
      | fail)
    clear a0_ a1_ a2_ a3_
    obtain ⟨a0, a1, a2, a3⟩ := four (HS14.out.get 7 rfl)
    obtain ⟨l0, l1, l2, l3, l4, l5, l6, l7⟩ := eight (HS14.out.get 6 rfl)
    have Hall := Aside0.mk (show ∀ w' : World, Below w14.heap.size w14 w' → (w'.cell? ⟨w.heap.size, 0, none⟩ = some (s) ∧ w'.cell? ⟨w.heap.size, 1, none⟩ = some (c) ∧ w'.cell? ⟨w.heap.size, 2, none⟩ = some (.bool m.failed) ∧ w'.cell? ⟨w.heap.size, 3, none⟩ = some (b) ∧ w'.cell? ⟨w.heap.size + 1, 0, none⟩ = some (.int .i64 id) ∧ w'.cell? ⟨w.heap.size + 1, 1, none⟩ = some (.int .i64 gen) ∧ w'.cell? ⟨w.heap.size + 1, 2, none⟩ = some (.int .i64 role) ∧ w'.cell? ⟨w.heap.size + 1, 3, none⟩ = some (.int .i64 n) ∧ w'.cell? ⟨w.heap.size + 1, 4, none⟩ = some (.int .i64 st) ∧ w'.cell? ⟨w.heap.size + 1, 5, none⟩ = some (.int .i64 tail) ∧ w'.cell? ⟨w.heap.size + 1, 6, none⟩ = some (.int .i64 lost) ∧ w'.cell? ⟨w.heap.size + 1, 7, none⟩ = some (.int .i64 built)) from fun w' hb => ⟨(hb.cell (lt_of_cell a0)).trans a0, (hb.cell (lt_of_cell a1)).trans a1, (hb.cell (lt_of_cell a2)).trans a2, (hb.cell (lt_of_cell a3)).trans a3, (hb.cell (lt_of_cell l0)).trans l0, (hb.cell (lt_of_cell l1)).trans l1, (hb.cell (lt_of_cell l2)).trans l2, (hb.cell (lt_of_cell l3)).trans l3, (hb.cell (lt_of_cell l4)).trans l4, (hb.cell (lt_of_cell l5)).trans l5, (hb.cell (lt_of_cell l6)).trans l6, (hb.cell (lt_of_cell l7)).trans l7⟩)
    clear a0 a1 a2 a3 l0 l1 l2 l3 l4 l5 l6 l7
    have HBx : Below w14.heap.size w14 w14 := Below.refl _ _
    have hge : w14.heap.size ≤ w14.heap.size := Nat.le_refl _
    have HS := (Sep.start w14 []).drew
    go_upto_region 24 with fail
    go_cut [12] (fun sx wx => ∃ (g : Nat) (F : List Nat) (B1 : Option Addr) (d1 : Nat) (B2 : Option Addr) (d2 : Nat) (B3 : Option Addr) (d3 : Nat), sx = .pointer (some ⟨g, 0, none⟩) ∧ Aside0 (Sep w14 [] wx [bx g 26 #[.slice B1 V.secs.length d1, .slice B2 V.cache.length d2, .bool V.failed, .slice B3 V.bad.length d3], me F (.agg #[.slice B1 V.secs.length d1, .slice B2 V.cache.length d2, .bool V.failed, .slice B3 V.bad.length d3]) V]))
    case first =>
      go_region_held3 (fun w' => w'.cell? ⟨w.heap.size, 0, none⟩ = some (s) ∧ w'.cell? ⟨w.heap.size, 1, none⟩ = some (c) ∧ w'.cell? ⟨w.heap.size, 2, none⟩ = some (.bool m.failed) ∧ w'.cell? ⟨w.heap.size, 3, none⟩ = some (b) ∧ w'.cell? ⟨w.heap.size + 1, 0, none⟩ = some (.int .i64 id) ∧ w'.cell? ⟨w.heap.size + 1, 1, none⟩ = some (.int .i64 gen) ∧ w'.cell? ⟨w.heap.size + 1, 2, none⟩ = some (.int .i64 role) ∧ w'.cell? ⟨w.heap.size + 1, 3, none⟩ = some (.int .i64 n) ∧ w'.cell? ⟨w.heap.size + 1, 4, none⟩ = some (.int .i64 st) ∧ w'.cell? ⟨w.heap.size + 1, 5, none⟩ = some (.int .i64 tail) ∧ w'.cell? ⟨w.heap.size + 1, 6, none⟩ = some (.int .i64 lost) ∧ w'.cell? ⟨w.heap.size + 1, 7, none⟩ = some (.int .i64 built))
        ((refine Hall.out _ ?_; repeat (first | exact HBx | apply below_alloc | apply below_drew | refine below_set ?_ hge | refine below_set ?_ (Nat.le_refl _))))
        (first
          | (go_at_call 22; refine (c_toMem (MemR_below H.out (HS14.out.toBelow.trans ((by (repeat (first | exact HBx | apply below_alloc | apply below_drew)) : Below w14.heap.size w14 _).mono HS14.out.toBelow.size))) HSm.out).mono ?_; rintro e wt ⟨ut, Ft, rfl, hu, hF, hb⟩; (first | (have HN := HS.new (new_mem hu hF hb)) | (have HN := (HS.alloc (g := w14.heap.size) rfl #[.slice none 0 0, .slice none 0 0, .bool false, .slice none 0 0] 26).new (new_mem hu hF hb); have hge := HBx.size) | (have HN := (HS.alloc rfl #[.slice none 0 0, .slice none 0 0, .bool false, .slice none 0 0] 26).new (new_mem hu hF hb); have hge := HBx.size)); clear hu hF hb; replace HBx := HN.toBelow; clear HS; have HS := HN; clear HN)
          | (go_at_call 40; refine (c_toSuper _ _ _ _ _ _ _ _ _).mono ?_; rintro e wp ⟨rfl, hb⟩; (first | (have HN := HS.below hb) | (have HN := (HS.alloc (g := w14.heap.size) rfl #[.slice none 0 0, .slice none 0 0, .bool false, .slice none 0 0] 26).below hb; have hge := HBx.size) | (have HN := (HS.alloc rfl #[.slice none 0 0, .slice none 0 0, .bool false, .slice none 0 0] 26).below hb; have hge := HBx.size)); clear hb; replace HBx := HN.toBelow; clear HS; have HS := HN; clear HN)
          | (go_at_call 41; (first | (refine (c_implWriteSuper _ _ _ _ _ _ _ _ (MemO_R (HS.get 0 rfl)) HSm.out).mono ?_) | (refine (c_implWriteSuper _ _ _ _ _ _ _ _ (MemO_R (HS.get 1 rfl)) HSm.out).mono ?_) | (refine (c_implWriteSuper _ _ _ _ _ _ _ _ (MemO_R ((HS.alloc rfl #[.slice none 0 0, .slice none 0 0, .bool false, .slice none 0 0] 26).get 1 rfl)) HSm.out).mono ?_)); rintro e wv ⟨uv, Fv, rfl, hn⟩; rw [HV.out] at hn; (first | (have HN := HS.new hn) | (have HN := (HS.alloc (g := w14.heap.size) rfl #[.slice none 0 0, .slice none 0 0, .bool false, .slice none 0 0] 26).new hn; have hge := HBx.size) | (have HN := (HS.alloc rfl #[.slice none 0 0, .slice none 0 0, .bool false, .slice none 0 0] 26).new hn; have hge := HBx.size)); obtain ⟨B1, d1, B2, d2, B3, d3, rfl⟩ := me_form HN; replace HBx := HN.toBelow; clear HS hn; (try (have gz := blk_frozen (HN.get 1 rfl); obtain ⟨y0, y1, y2, y3⟩ := four (HN.get 1 rfl))); (try (have gz := blk_frozen (HN.get 2 rfl); obtain ⟨y0, y1, y2, y3⟩ := four (HN.get 2 rfl))))
          | fail)
      all_goals (go_wp2_with fail; go_meet; first | exact ⟨_, Fv, B1, d1, B2, d2, B3, d3, rfl, ⟨(HN.alloc rfl #[.slice B1 V.secs.length d1, .slice B2 V.cache.length d2, .bool V.failed, .slice B3 V.bad.length d3] 26).sel [0, 1] (by decide) (by simp)⟩⟩ | exact ⟨_, Fv, B1, d1, B2, d2, B3, d3, rfl, ⟨((((HN.setb 1 rfl 0 (.slice B1 V.secs.length d1) rfl).setb 1 rfl 1 (.slice B2 V.cache.length d2) rfl).setb 1 rfl 2 (.bool V.failed) rfl).setb 1 rfl 3 (.slice B3 V.bad.length d3) rfl).sel [1, 0] (by decide) (by simp)⟩⟩ | exact ⟨_, Fv, B1, d1, B2, d2, B3, d3, rfl, ⟨((((HN.setb 2 rfl 0 (.slice B1 V.secs.length d1) rfl).setb 2 rfl 1 (.slice B2 V.cache.length d2) rfl).setb 2 rfl 2 (.bool V.failed) rfl).setb 2 rfl 3 (.slice B3 V.bad.length d3) rfl).sel [2, 0] (by decide) (by simp)⟩⟩)
    case' rest => skip
    obtain ⟨g15, F15, A15, p15, B15, q15, C15, r15, rfl, HC⟩ := hcut
    have hB := Sep.comp HS14.out HC.out
    simp only [List.cons_append, List.nil_append] at hB
    have HS15 := Aside0.mk hB
    clear hB HC HBx hge HS Hall
    rename World => w15
    obtain ⟨h00_, h01_, h02_, h03_⟩ := four (HS15.out.get 0 rfl); obtain ⟨w00_, w01_, w02_, w03_⟩ := four (HS15.out.get 6 rfl)
    go_upto_region 28 with (first
      | (go_at_call 17; refine (c_eqMem (MemO_R (HS15.out.get 1 rfl)) (MemO_R (HS15.out.get 7 rfl))).mono ?_; rw [decide_eq_true rfl]; rintro e w16 ⟨rfl, hb⟩; have HS16 := Aside0.mk (HS15.out.below hb); clear hb; clear h00_ h01_ h02_ h03_ w00_ w01_ w02_ w03_; obtain ⟨g00_, g01_, g02_, g03_⟩ := four (HS16.out.get 2 rfl))
      | fail)
    go_wp2_with (first
      | (go_at_call 19; refine (c_heldMem (MemO_R (HS16.out.get 3 rfl)) (by omega) (by have := htot; omega)).mono ?_; rintro e w17 ⟨rfl, hb⟩; have HS17 := Aside0.mk (HS16.out.below hb); clear hb; clear g00_ g01_ g02_ g03_)
      | fail)
    go_ret
    exact ⟨rfl, HS17.out.toBelow⟩
end Go.Proofs.Ytbejlccfclkiiaa.LawWriteSuper
