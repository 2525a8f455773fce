/- WriteSuper, of both. -/
import Derived.Test.YtlmnmcfieagmbaaMSuper
import Derived.Test.YtlmnmcfieagmbaaMWrite
import Derived.Laws.BitsLemmas
namespace Go.Proofs.Ytlmnmcfieagmbaa.MWSuper
open Go.RowKit Go.Proofs.Ytlmnmcfieagmbaa.RJ Go.Proofs.YtlmnmcfieagmbaaW.PrintWords Go.Proofs.Ytlmnmcfieagmbaa.Fp Go.Proofs.Ytlmnmcfieagmbaa.FpStep Go.Proofs.Ytlmnmcfieagmbaa.MInt Go.Proofs.Ytlmnmcfieagmbaa.MKinds Go.Proofs.Ytlmnmcfieagmbaa.MRead Go.Proofs.Ytlmnmcfieagmbaa.MMake Go.Proofs.Ytlmnmcfieagmbaa.MPut Go.Proofs.Ytlmnmcfieagmbaa.MVal Go.Proofs.Ytlmnmcfieagmbaa.Sep Go.Proofs.Ytlmnmcfieagmbaa.SepStep Go.Proofs.Ytlmnmcfieagmbaa.MReadS Go.Proofs.Ytlmnmcfieagmbaa.MSuper Go.Proofs.Ytlmnmcfieagmbaa.MCopy Go.Proofs.Ytlmnmcfieagmbaa.MCopyS Go.Proofs.Ytlmnmcfieagmbaa.MWrite
set_option linter.unusedVariables false
set_option linter.unusedSimpArgs false
attribute [local go_sem ↓] Go.wp_at_zero Go.wp_at_succ
def wsupV (m : MemV) (s : SupV) : MemV := if supB s then writeV m (s.gen % 2) (putSup s) else m
theorem putSup_len (s : SupV) : (putSup s).length ≤ 9 := by unfold putSup; split <;> simp [supL]
set_option maxHeartbeats 1000000 in
set_option maxRecDepth 100000 in
theorem c_implWriteSuper {w : World} {v : Value} {m : MemV} (id gen role n st tail lost built : Int) (h : MemR w v m) (hs : Small m) :
    Calls Try.prog 52 #[v, .agg #[.int .i64 id, .int .i64 gen, .int .i64 role, .int .i64 n, .int .i64 st, .int .i64 tail, .int .i64 lost, .int .i64 built]] w fun e w' => ∃ u F, e = .returned u ∧ New w w' (me F u (wsupV m ⟨id, gen, role, n, st, tail, lost, built⟩)) := by
  have H := Aside0.mk h
  obtain ⟨s, c, b, rfl, r1, r2, r3⟩ := h
  obtain ⟨A1, c1, rfl, _⟩ := r1
  obtain ⟨A2, c2, rfl, _⟩ := r2
  obtain ⟨A3, c3, rfl, _⟩ := r3
  have HSm := Aside0.mk hs
  clear hs
  generalize hmf : m.failed = mf at H
  have Hmf := Aside0.mk hmf
  clear hmf
  have H0 := Aside0.mk ((((Sep.start w []).alloc (g := w.heap.size) rfl #[.slice A1 m.secs.length c1, .slice A2 m.cache.length c2, .bool mf, .slice A3 m.bad.length c3] 30).alloc (g := w.heap.size + 1) (by simp) #[.int .i64 id, .int .i64 gen, .int .i64 role, .int .i64 n, .int .i64 st, .int .i64 tail, .int .i64 lost, .int .i64 built] 53).alloc (g := w.heap.size + 1 + 1) (by simp) #[.slice none 0 0, .slice none 0 0, .bool false, .slice none 0 0] 30)
  by_cases hB : supB ⟨id, gen, role, n, st, tail, lost, built⟩ = true
  · have hg : 0 ≤ gen ∧ gen ≤ 60000 := by simp [supB, inR] at hB; omega
    have hval : wsupV m ⟨id, gen, role, n, st, tail, lost, built⟩ = writeV m (gen.tmod 2) (putSup ⟨id, gen, role, n, st, tail, lost, built⟩) := by unfold wsupV; rw [if_pos hB, Int.tmod_eq_emod_of_nonneg hg.1]
    have Hval := Aside0.mk hval
    have hxl := putSup_len ⟨id, gen, role, n, st, tail, lost, built⟩
    clear hval
    obtain ⟨hg0, hg1⟩ := hg
    go_enter Try.func52, Try.ntmps52
    go_upto_region 3 with (first
      | (go_at_call 49; refine (c_implSuperOk _ _ _ _ _ _ _ _ _).mono ?_; rw [hB]; rintro e wz ⟨rfl, hb⟩; have HZ := Aside0.mk (H0.out.below hb); clear hb)
      | fail)
    clear hB
    obtain ⟨k0, k1, k2, k3⟩ := four (HZ.out.get 2 rfl)
    obtain ⟨l0, l1, l2, l3, l4, l5, l6, l7⟩ := eight (HZ.out.get 1 rfl)
    have hall : ∀ w' : World, Below wz.heap.size wz w' → (w'.cell? ⟨w.heap.size, 0, none⟩ = some (.slice A1 m.secs.length c1) ∧ w'.cell? ⟨w.heap.size, 1, none⟩ = some (.slice A2 m.cache.length c2) ∧ w'.cell? ⟨w.heap.size, 2, none⟩ = some (.bool mf) ∧ w'.cell? ⟨w.heap.size, 3, none⟩ = some (.slice A3 m.bad.length c3) ∧ w'.cell? ⟨w.heap.size + 1, 0, none⟩ = some (.int .i64 id) ∧ w'.cell? ⟨w.heap.size + 1, 1, none⟩ = some (.int .i64 gen) ∧ w'.cell? ⟨w.heap.size + 1, 2, none⟩ = some (.int .i64 role) ∧ w'.cell? ⟨w.heap.size + 1, 3, none⟩ = some (.int .i64 n) ∧ w'.cell? ⟨w.heap.size + 1, 4, none⟩ = some (.int .i64 st) ∧ w'.cell? ⟨w.heap.size + 1, 5, none⟩ = some (.int .i64 tail) ∧ w'.cell? ⟨w.heap.size + 1, 6, none⟩ = some (.int .i64 lost) ∧ w'.cell? ⟨w.heap.size + 1, 7, none⟩ = some (.int .i64 built)) := fun w' hb => ⟨(hb.cell (lt_of_cell k0)).trans k0, (hb.cell (lt_of_cell k1)).trans k1, (hb.cell (lt_of_cell k2)).trans k2, (hb.cell (lt_of_cell k3)).trans k3, (hb.cell (lt_of_cell l0)).trans l0, (hb.cell (lt_of_cell l1)).trans l1, (hb.cell (lt_of_cell l2)).trans l2, (hb.cell (lt_of_cell l3)).trans l3, (hb.cell (lt_of_cell l4)).trans l4, (hb.cell (lt_of_cell l5)).trans l5, (hb.cell (lt_of_cell l6)).trans l6, (hb.cell (lt_of_cell l7)).trans l7⟩
    have Hall := Aside0.mk hall
    have HBx : Below wz.heap.size wz wz := Below.refl _ _
    have hge : wz.heap.size ≤ wz.heap.size := Nat.le_refl _
    clear hall
    generalize hxs : putSup ⟨id, gen, role, n, st, tail, lost, built⟩ = xs at *
    go_cut [5] (fun s5 wx => ∃ (g : Nat) (F : List Nat) (B1 : Option Addr) (d1 : Nat) (B2 : Option Addr) (d2 : Nat) (B3 : Option Addr) (d3 : Nat), s5 = .pointer (some ⟨g, 0, none⟩) ∧ Aside0 (Sep wz [] wx [bx g 30 #[.slice B1 (writeV m (gen.tmod 2) xs).secs.length d1, .slice B2 (writeV m (gen.tmod 2) xs).cache.length d2, .bool (writeV m (gen.tmod 2) xs).failed, .slice B3 (writeV m (gen.tmod 2) xs).bad.length d3], me F (.agg #[.slice B1 (writeV m (gen.tmod 2) xs).secs.length d1, .slice B2 (writeV m (gen.tmod 2) xs).cache.length d2, .bool (writeV m (gen.tmod 2) xs).failed, .slice B3 (writeV m (gen.tmod 2) xs).bad.length d3]) (writeV m (gen.tmod 2) xs)]))
    case first =>
      go_region_held3 (fun w' => w'.cell? ⟨w.heap.size, 0, none⟩ = some (.slice A1 m.secs.length c1) ∧ w'.cell? ⟨w.heap.size, 1, none⟩ = some (.slice A2 m.cache.length c2) ∧ w'.cell? ⟨w.heap.size, 2, none⟩ = some (.bool mf) ∧ w'.cell? ⟨w.heap.size, 3, none⟩ = some (.slice A3 m.bad.length c3) ∧ w'.cell? ⟨w.heap.size + 1, 0, none⟩ = some (.int .i64 id) ∧ w'.cell? ⟨w.heap.size + 1, 1, none⟩ = some (.int .i64 gen) ∧ w'.cell? ⟨w.heap.size + 1, 2, none⟩ = some (.int .i64 role) ∧ w'.cell? ⟨w.heap.size + 1, 3, none⟩ = some (.int .i64 n) ∧ w'.cell? ⟨w.heap.size + 1, 4, none⟩ = some (.int .i64 st) ∧ w'.cell? ⟨w.heap.size + 1, 5, none⟩ = some (.int .i64 tail) ∧ w'.cell? ⟨w.heap.size + 1, 6, none⟩ = some (.int .i64 lost) ∧ w'.cell? ⟨w.heap.size + 1, 7, none⟩ = some (.int .i64 built))
        ((refine Hall.out _ ?_; repeat (first | exact HBx | apply below_alloc | apply below_drew | refine below_set ?_ hge | refine below_set ?_ (Nat.le_refl _))))
        (first
          | (go_at_call 42; refine (c_implPutSuper _ _ _ _ _ _ _ _ _).mono ?_; rw [hxs]; rintro e w1 ⟨u1, F1, rfl, hn⟩; first | (have HS1 := ((Sep.start wz []).drew).new hn; replace HBx := HS1.toBelow; replace hge := HS1.toBelow.size) | (have HS1 := ((Sep.start wz []).drew.alloc (g := wz.heap.size) rfl #[.slice none 0 0, .slice none 0 0, .bool false, .slice none 0 0] 30).new hn; have gz := blk_frozen (HS1.get 1 rfl); obtain ⟨y0, y1, y2, y3⟩ := four (HS1.get 1 rfl); replace HBx := HS1.toBelow; clear hn))
          | (go_at_call 39; (first
              | (refine (c_implWriteSec (MemR_below H.out (HZ.out.toBelow.trans (HBx.mono HZ.out.toBelow.size))) HSm.out (O_RK (HS1.get 0 rfl)) (by omega)).mono ?_; rintro e w2 ⟨u2, F2, rfl, hn2⟩; have HS2 := HS1.new hn2; try (have gz := blk_frozen (HS2.get 2 rfl); obtain ⟨y0, y1, y2, y3⟩ := four (HS2.get 2 rfl)))
              | (refine (c_implWriteSec (MemR_below H.out (below_alloc (HZ.out.toBelow.trans (HBx.mono HZ.out.toBelow.size)) _)) HSm.out (O_RK ((HS1.alloc (g := w1.heap.size) rfl #[.slice none 0 0, .slice none 0 0, .bool false, .slice none 0 0] 30).get 1 rfl)) (by omega)).mono ?_; rintro e w2 ⟨u2, F2, rfl, hn2⟩; have HS2 := (HS1.alloc (g := w1.heap.size) rfl #[.slice none 0 0, .slice none 0 0, .bool false, .slice none 0 0] 30).new hn2; have gz := blk_frozen (HS2.get 1 rfl); obtain ⟨y0, y1, y2, y3⟩ := four (HS2.get 1 rfl))); obtain ⟨B1, d1, B2, d2, B3, d3, rfl⟩ := me_form HS2; replace HBx := HS2.toBelow; clear hn2)
          | fail)
      all_goals (go_wp2_with fail; go_meet; first | exact ⟨_, F2, B1, d1, B2, d2, B3, d3, rfl, ⟨(HS2.alloc rfl #[.slice B1 (writeV m (gen.tmod 2) xs).secs.length d1, .slice B2 (writeV m (gen.tmod 2) xs).cache.length d2, .bool (writeV m (gen.tmod 2) xs).failed, .slice B3 (writeV m (gen.tmod 2) xs).bad.length d3] 30).sel [0, 1] (by decide) (by simp)⟩⟩ | exact ⟨_, F2, B1, d1, B2, d2, B3, d3, rfl, ⟨((((HS2.setb 1 rfl 0 (.slice B1 (writeV m (gen.tmod 2) xs).secs.length d1) rfl).setb 1 rfl 1 (.slice B2 (writeV m (gen.tmod 2) xs).cache.length d2) rfl).setb 1 rfl 2 (.bool (writeV m (gen.tmod 2) xs).failed) rfl).setb 1 rfl 3 (.slice B3 (writeV m (gen.tmod 2) xs).bad.length d3) rfl).sel [1, 0] (by decide) (by simp)⟩⟩ | exact ⟨_, F2, B1, d1, B2, d2, B3, d3, rfl, ⟨((((HS2.setb 2 rfl 0 (.slice B1 (writeV m (gen.tmod 2) xs).secs.length d1) rfl).setb 2 rfl 1 (.slice B2 (writeV m (gen.tmod 2) xs).cache.length d2) rfl).setb 2 rfl 2 (.bool (writeV m (gen.tmod 2) xs).failed) rfl).setb 2 rfl 3 (.slice B3 (writeV m (gen.tmod 2) xs).bad.length d3) rfl).sel [2, 0] (by decide) (by simp)⟩⟩)
    case rest =>
      obtain ⟨g, F, B1, d1, B2, d2, B3, d3, rfl, HC⟩ := hcut
      generalize writeV m (gen.tmod 2) xs = Y at *
      have hE0 := Sep.comp HZ.out HC.out
      simp only [List.cons_append, List.nil_append] at hE0
      have HE0 := Aside0.mk hE0
      clear hE0 k0 k1 k2 k3 l0 l1 l2 l3 l4 l5 l6 l7
      obtain ⟨k0, k1, k2, k3⟩ := four (HE0.out.get 0 rfl)
      obtain ⟨z0, z1, z2, z3⟩ := four (HE0.out.get 2 rfl)
      have fz := blk_frozen (HE0.out.get 2 rfl)
      go_wp2
      have HE : Sep w [] _ _ := ((((HE0.out.setb 2 rfl 0 (.slice B1 Y.secs.length d1) rfl).setb 2 rfl 1 (.slice B2 Y.cache.length d2) rfl).setb 2 rfl 2 (.bool Y.failed) rfl).setb 2 rfl 3 (.slice B3 Y.bad.length d3) rfl)
      refine bodyPost_ret (results_cell_row rfl _ _ (w.heap.size + 1 + 1) 30 #[.slice B1 Y.secs.length d1, .slice B2 Y.cache.length d2, .bool Y.failed, .slice B3 Y.bad.length d3] (0, 0) _ rfl (HE.get 2 rfl) Try.underlying30 rfl (by kernel_rfl)) rfl ?_
      rw [Hval.out]
      first | exact ⟨_, F, rfl, HE.toNew 1 rfl⟩ | exact ⟨_, rfl, F, HE.toNew 1 rfl⟩
  · simp only [Bool.not_eq_true] at hB
    have hval : wsupV m ⟨id, gen, role, n, st, tail, lost, built⟩ = m := by unfold wsupV; rw [hB]; rfl
    have Hval := Aside0.mk hval
    clear hval
    go_enter Try.func52, Try.ntmps52
    go_wp2_with (first
      | (go_at_call 49; refine (c_implSuperOk _ _ _ _ _ _ _ _ _).mono ?_; rw [hB]; rintro e wz ⟨rfl, hb⟩; have HZ := Aside0.mk (H0.out.below hb); clear hb; obtain ⟨k0, k1, k2, k3⟩ := four (HZ.out.get 2 rfl))
      | (go_at_call 101; refine (c_copyMem (MemR_below H.out HZ.out.toBelow) HSm.out).mono ?_; rintro e w2 ⟨u2, F2, rfl, hn⟩; have HS2 := Aside0.mk (HZ.out.new hn); obtain ⟨B1, d1, B2, d2, B3, d3, rfl⟩ := me_form HS2.out; clear hn k0 k1 k2 k3; obtain ⟨z0, z1, z2, z3⟩ := four (HS2.out.get 1 rfl); have fz := blk_frozen (HS2.out.get 1 rfl))
      | fail)
    have HE : Sep w [] _ _ := ((((HS2.out.setb 1 rfl 0 (.slice B1 m.secs.length d1) rfl).setb 1 rfl 1 (.slice B2 m.cache.length d2) rfl).setb 1 rfl 2 (.bool m.failed) rfl).setb 1 rfl 3 (.slice B3 m.bad.length d3) rfl)
    refine bodyPost_ret (results_cell_row rfl _ _ (w.heap.size + 1 + 1) 30 #[.slice B1 m.secs.length d1, .slice B2 m.cache.length d2, .bool m.failed, .slice B3 m.bad.length d3] (0, 0) _ rfl (HE.get 1 rfl) Try.underlying30 rfl (by kernel_rfl)) rfl ?_
    rw [Hval.out]
    first | exact ⟨_, F2, rfl, HE.toNew 0 rfl⟩ | exact ⟨_, rfl, F2, HE.toNew 0 rfl⟩

set_option maxHeartbeats 1000000 in
set_option maxRecDepth 100000 in
theorem c_specWriteSuper {w : World} {v : Value} {m : MemV} (id gen role n st tail lost built : Int) (h : MemR w v m) (hs : Small m) :
    Calls Try.prog 53 #[v, .agg #[.int .i64 id, .int .i64 gen, .int .i64 role, .int .i64 n, .int .i64 st, .int .i64 tail, .int .i64 lost, .int .i64 built]] w fun e w' => ∃ u F, e = .returned u ∧ New w w' (me F u (wsupV m ⟨id, gen, role, n, st, tail, lost, built⟩)) := by
  have H := Aside0.mk h
  obtain ⟨s, c, b, rfl, r1, r2, r3⟩ := h
  obtain ⟨A1, c1, rfl, _⟩ := r1
  obtain ⟨A2, c2, rfl, _⟩ := r2
  obtain ⟨A3, c3, rfl, _⟩ := r3
  have HSm := Aside0.mk hs
  clear hs
  generalize hmf : m.failed = mf at H
  have Hmf := Aside0.mk hmf
  clear hmf
  have H0 := Aside0.mk ((((Sep.start w []).alloc (g := w.heap.size) rfl #[.slice A1 m.secs.length c1, .slice A2 m.cache.length c2, .bool mf, .slice A3 m.bad.length c3] 30).alloc (g := w.heap.size + 1) (by simp) #[.int .i64 id, .int .i64 gen, .int .i64 role, .int .i64 n, .int .i64 st, .int .i64 tail, .int .i64 lost, .int .i64 built] 53).alloc (g := w.heap.size + 1 + 1) (by simp) #[.slice none 0 0, .slice none 0 0, .bool false, .slice none 0 0] 30)
  by_cases hB : supB ⟨id, gen, role, n, st, tail, lost, built⟩ = true
  · have hg : 0 ≤ gen ∧ gen ≤ 60000 := by simp [supB, inR] at hB; omega
    have hval : wsupV m ⟨id, gen, role, n, st, tail, lost, built⟩ = writeV m (gen.tmod 2) (putSup ⟨id, gen, role, n, st, tail, lost, built⟩) := by unfold wsupV; rw [if_pos hB, Int.tmod_eq_emod_of_nonneg hg.1]
    have Hval := Aside0.mk hval
    have hxl := putSup_len ⟨id, gen, role, n, st, tail, lost, built⟩
    clear hval
    obtain ⟨hg0, hg1⟩ := hg
    go_enter Try.func53, Try.ntmps53
    go_upto_region 3 with (first
      | (go_at_call 50; refine (c_specSuperOk _ _ _ _ _ _ _ _ _).mono ?_; rw [hB]; rintro e wz ⟨rfl, hb⟩; have HZ := Aside0.mk (H0.out.below hb); clear hb)
      | fail)
    clear hB
    obtain ⟨k0, k1, k2, k3⟩ := four (HZ.out.get 2 rfl)
    obtain ⟨l0, l1, l2, l3, l4, l5, l6, l7⟩ := eight (HZ.out.get 1 rfl)
    have hall : ∀ w' : World, Below wz.heap.size wz w' → (w'.cell? ⟨w.heap.size, 0, none⟩ = some (.slice A1 m.secs.length c1) ∧ w'.cell? ⟨w.heap.size, 1, none⟩ = some (.slice A2 m.cache.length c2) ∧ w'.cell? ⟨w.heap.size, 2, none⟩ = some (.bool mf) ∧ w'.cell? ⟨w.heap.size, 3, none⟩ = some (.slice A3 m.bad.length c3) ∧ w'.cell? ⟨w.heap.size + 1, 0, none⟩ = some (.int .i64 id) ∧ w'.cell? ⟨w.heap.size + 1, 1, none⟩ = some (.int .i64 gen) ∧ w'.cell? ⟨w.heap.size + 1, 2, none⟩ = some (.int .i64 role) ∧ w'.cell? ⟨w.heap.size + 1, 3, none⟩ = some (.int .i64 n) ∧ w'.cell? ⟨w.heap.size + 1, 4, none⟩ = some (.int .i64 st) ∧ w'.cell? ⟨w.heap.size + 1, 5, none⟩ = some (.int .i64 tail) ∧ w'.cell? ⟨w.heap.size + 1, 6, none⟩ = some (.int .i64 lost) ∧ w'.cell? ⟨w.heap.size + 1, 7, none⟩ = some (.int .i64 built)) := fun w' hb => ⟨(hb.cell (lt_of_cell k0)).trans k0, (hb.cell (lt_of_cell k1)).trans k1, (hb.cell (lt_of_cell k2)).trans k2, (hb.cell (lt_of_cell k3)).trans k3, (hb.cell (lt_of_cell l0)).trans l0, (hb.cell (lt_of_cell l1)).trans l1, (hb.cell (lt_of_cell l2)).trans l2, (hb.cell (lt_of_cell l3)).trans l3, (hb.cell (lt_of_cell l4)).trans l4, (hb.cell (lt_of_cell l5)).trans l5, (hb.cell (lt_of_cell l6)).trans l6, (hb.cell (lt_of_cell l7)).trans l7⟩
    have Hall := Aside0.mk hall
    have HBx : Below wz.heap.size wz wz := Below.refl _ _
    have hge : wz.heap.size ≤ wz.heap.size := Nat.le_refl _
    clear hall
    generalize hxs : putSup ⟨id, gen, role, n, st, tail, lost, built⟩ = xs at *
    go_cut [5] (fun s5 wx => ∃ (g : Nat) (F : List Nat) (B1 : Option Addr) (d1 : Nat) (B2 : Option Addr) (d2 : Nat) (B3 : Option Addr) (d3 : Nat), s5 = .pointer (some ⟨g, 0, none⟩) ∧ Aside0 (Sep wz [] wx [bx g 30 #[.slice B1 (writeV m (gen.tmod 2) xs).secs.length d1, .slice B2 (writeV m (gen.tmod 2) xs).cache.length d2, .bool (writeV m (gen.tmod 2) xs).failed, .slice B3 (writeV m (gen.tmod 2) xs).bad.length d3], me F (.agg #[.slice B1 (writeV m (gen.tmod 2) xs).secs.length d1, .slice B2 (writeV m (gen.tmod 2) xs).cache.length d2, .bool (writeV m (gen.tmod 2) xs).failed, .slice B3 (writeV m (gen.tmod 2) xs).bad.length d3]) (writeV m (gen.tmod 2) xs)]))
    case first =>
      go_region_held3 (fun w' => w'.cell? ⟨w.heap.size, 0, none⟩ = some (.slice A1 m.secs.length c1) ∧ w'.cell? ⟨w.heap.size, 1, none⟩ = some (.slice A2 m.cache.length c2) ∧ w'.cell? ⟨w.heap.size, 2, none⟩ = some (.bool mf) ∧ w'.cell? ⟨w.heap.size, 3, none⟩ = some (.slice A3 m.bad.length c3) ∧ w'.cell? ⟨w.heap.size + 1, 0, none⟩ = some (.int .i64 id) ∧ w'.cell? ⟨w.heap.size + 1, 1, none⟩ = some (.int .i64 gen) ∧ w'.cell? ⟨w.heap.size + 1, 2, none⟩ = some (.int .i64 role) ∧ w'.cell? ⟨w.heap.size + 1, 3, none⟩ = some (.int .i64 n) ∧ w'.cell? ⟨w.heap.size + 1, 4, none⟩ = some (.int .i64 st) ∧ w'.cell? ⟨w.heap.size + 1, 5, none⟩ = some (.int .i64 tail) ∧ w'.cell? ⟨w.heap.size + 1, 6, none⟩ = some (.int .i64 lost) ∧ w'.cell? ⟨w.heap.size + 1, 7, none⟩ = some (.int .i64 built))
        ((refine Hall.out _ ?_; repeat (first | exact HBx | apply below_alloc | apply below_drew | refine below_set ?_ hge | refine below_set ?_ (Nat.le_refl _))))
        (first
          | (go_at_call 127; refine (c_specPutSuper _ _ _ _ _ _ _ _ _).mono ?_; rw [hxs]; rintro e w1 ⟨u1, F1, rfl, hn⟩; first | (have HS1 := ((Sep.start wz []).drew).new hn; replace HBx := HS1.toBelow; replace hge := HS1.toBelow.size) | (have HS1 := ((Sep.start wz []).drew.alloc (g := wz.heap.size) rfl #[.slice none 0 0, .slice none 0 0, .bool false, .slice none 0 0] 30).new hn; have gz := blk_frozen (HS1.get 1 rfl); obtain ⟨y0, y1, y2, y3⟩ := four (HS1.get 1 rfl); replace HBx := HS1.toBelow; clear hn))
          | (go_at_call 40; (first
              | (refine (c_specWriteSec (MemR_below H.out (HZ.out.toBelow.trans (HBx.mono HZ.out.toBelow.size))) HSm.out (O_RK (HS1.get 0 rfl)) (by omega)).mono ?_; rintro e w2 ⟨u2, F2, rfl, hn2⟩; have HS2 := HS1.new hn2; try (have gz := blk_frozen (HS2.get 2 rfl); obtain ⟨y0, y1, y2, y3⟩ := four (HS2.get 2 rfl)))
              | (refine (c_specWriteSec (MemR_below H.out (below_alloc (HZ.out.toBelow.trans (HBx.mono HZ.out.toBelow.size)) _)) HSm.out (O_RK ((HS1.alloc (g := w1.heap.size) rfl #[.slice none 0 0, .slice none 0 0, .bool false, .slice none 0 0] 30).get 1 rfl)) (by omega)).mono ?_; rintro e w2 ⟨u2, F2, rfl, hn2⟩; have HS2 := (HS1.alloc (g := w1.heap.size) rfl #[.slice none 0 0, .slice none 0 0, .bool false, .slice none 0 0] 30).new hn2; have gz := blk_frozen (HS2.get 1 rfl); obtain ⟨y0, y1, y2, y3⟩ := four (HS2.get 1 rfl))); obtain ⟨B1, d1, B2, d2, B3, d3, rfl⟩ := me_form HS2; replace HBx := HS2.toBelow; clear hn2)
          | fail)
      all_goals (go_wp2_with fail; go_meet; first | exact ⟨_, F2, B1, d1, B2, d2, B3, d3, rfl, ⟨(HS2.alloc rfl #[.slice B1 (writeV m (gen.tmod 2) xs).secs.length d1, .slice B2 (writeV m (gen.tmod 2) xs).cache.length d2, .bool (writeV m (gen.tmod 2) xs).failed, .slice B3 (writeV m (gen.tmod 2) xs).bad.length d3] 30).sel [0, 1] (by decide) (by simp)⟩⟩ | exact ⟨_, F2, B1, d1, B2, d2, B3, d3, rfl, ⟨((((HS2.setb 1 rfl 0 (.slice B1 (writeV m (gen.tmod 2) xs).secs.length d1) rfl).setb 1 rfl 1 (.slice B2 (writeV m (gen.tmod 2) xs).cache.length d2) rfl).setb 1 rfl 2 (.bool (writeV m (gen.tmod 2) xs).failed) rfl).setb 1 rfl 3 (.slice B3 (writeV m (gen.tmod 2) xs).bad.length d3) rfl).sel [1, 0] (by decide) (by simp)⟩⟩ | exact ⟨_, F2, B1, d1, B2, d2, B3, d3, rfl, ⟨((((HS2.setb 2 rfl 0 (.slice B1 (writeV m (gen.tmod 2) xs).secs.length d1) rfl).setb 2 rfl 1 (.slice B2 (writeV m (gen.tmod 2) xs).cache.length d2) rfl).setb 2 rfl 2 (.bool (writeV m (gen.tmod 2) xs).failed) rfl).setb 2 rfl 3 (.slice B3 (writeV m (gen.tmod 2) xs).bad.length d3) rfl).sel [2, 0] (by decide) (by simp)⟩⟩)
    case rest =>
      obtain ⟨g, F, B1, d1, B2, d2, B3, d3, rfl, HC⟩ := hcut
      generalize writeV m (gen.tmod 2) xs = Y at *
      have hE0 := Sep.comp HZ.out HC.out
      simp only [List.cons_append, List.nil_append] at hE0
      have HE0 := Aside0.mk hE0
      clear hE0 k0 k1 k2 k3 l0 l1 l2 l3 l4 l5 l6 l7
      obtain ⟨k0, k1, k2, k3⟩ := four (HE0.out.get 0 rfl)
      obtain ⟨z0, z1, z2, z3⟩ := four (HE0.out.get 2 rfl)
      have fz := blk_frozen (HE0.out.get 2 rfl)
      go_wp2
      have HE : Sep w [] _ _ := ((((HE0.out.setb 2 rfl 0 (.slice B1 Y.secs.length d1) rfl).setb 2 rfl 1 (.slice B2 Y.cache.length d2) rfl).setb 2 rfl 2 (.bool Y.failed) rfl).setb 2 rfl 3 (.slice B3 Y.bad.length d3) rfl)
      refine bodyPost_ret (results_cell_row rfl _ _ (w.heap.size + 1 + 1) 30 #[.slice B1 Y.secs.length d1, .slice B2 Y.cache.length d2, .bool Y.failed, .slice B3 Y.bad.length d3] (0, 0) _ rfl (HE.get 2 rfl) Try.underlying30 rfl (by kernel_rfl)) rfl ?_
      rw [Hval.out]
      first | exact ⟨_, F, rfl, HE.toNew 1 rfl⟩ | exact ⟨_, rfl, F, HE.toNew 1 rfl⟩
  · simp only [Bool.not_eq_true] at hB
    have hval : wsupV m ⟨id, gen, role, n, st, tail, lost, built⟩ = m := by unfold wsupV; rw [hB]; rfl
    have Hval := Aside0.mk hval
    clear hval
    go_enter Try.func53, Try.ntmps53
    go_wp2_with (first
      | (go_at_call 50; refine (c_specSuperOk _ _ _ _ _ _ _ _ _).mono ?_; rw [hB]; rintro e wz ⟨rfl, hb⟩; have HZ := Aside0.mk (H0.out.below hb); clear hb; obtain ⟨k0, k1, k2, k3⟩ := four (HZ.out.get 2 rfl))
      | (go_at_call 95; refine (c_l2Copy (MemR_below H.out HZ.out.toBelow) HSm.out).mono ?_; rintro e w2 ⟨u2, F2, rfl, hn⟩; have HS2 := Aside0.mk (HZ.out.new hn); obtain ⟨B1, d1, B2, d2, B3, d3, rfl⟩ := me_form HS2.out; clear hn k0 k1 k2 k3; obtain ⟨z0, z1, z2, z3⟩ := four (HS2.out.get 1 rfl); have fz := blk_frozen (HS2.out.get 1 rfl))
      | fail)
    have HE : Sep w [] _ _ := ((((HS2.out.setb 1 rfl 0 (.slice B1 m.secs.length d1) rfl).setb 1 rfl 1 (.slice B2 m.cache.length d2) rfl).setb 1 rfl 2 (.bool m.failed) rfl).setb 1 rfl 3 (.slice B3 m.bad.length d3) rfl)
    refine bodyPost_ret (results_cell_row rfl _ _ (w.heap.size + 1 + 1) 30 #[.slice B1 m.secs.length d1, .slice B2 m.cache.length d2, .bool m.failed, .slice B3 m.bad.length d3] (0, 0) _ rfl (HE.get 1 rfl) Try.underlying30 rfl (by kernel_rfl)) rfl ?_
    rw [Hval.out]
    first | exact ⟨_, F2, rfl, HE.toNew 0 rfl⟩ | exact ⟨_, rfl, F2, HE.toNew 0 rfl⟩

end Go.Proofs.Ytlmnmcfieagmbaa.MWSuper
