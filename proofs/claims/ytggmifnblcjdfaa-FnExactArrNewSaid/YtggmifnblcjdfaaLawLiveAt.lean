/- The law FnExactLiveAt: it returns true. -/
import Derived.Test.YtggmifnblcjdfaaAArr
import Derived.Test.YtggmifnblcjdfaaALive
import Derived.Deep.DrawnRows
namespace Go.Proofs.Ytggmifnblcjdfaa.LawLiveAt
open Go.RowKit Go.Proofs.Ytggmifnblcjdfaa.RJ Go.Proofs.Ytggmifnblcjdfaa.RP Go.Proofs.YtggmifnblcjdfaaW.PrintWords Go.Proofs.Ytggmifnblcjdfaa.Fp Go.Proofs.Ytggmifnblcjdfaa.FpStep Go.Proofs.Ytggmifnblcjdfaa.MInt Go.Proofs.Ytggmifnblcjdfaa.MKinds Go.Proofs.Ytggmifnblcjdfaa.MRead Go.Proofs.Ytggmifnblcjdfaa.MMake Go.Proofs.Ytggmifnblcjdfaa.MPut Go.Proofs.Ytggmifnblcjdfaa.MHeld Go.Proofs.Ytggmifnblcjdfaa.Sep Go.Proofs.Ytggmifnblcjdfaa.SepStep Go.Proofs.Ytggmifnblcjdfaa.LawLib Go.Proofs.Ytggmifnblcjdfaa.AKinds Go.Proofs.Ytggmifnblcjdfaa.AMake Go.Proofs.Ytggmifnblcjdfaa.AEnt Go.Proofs.Ytggmifnblcjdfaa.ALaw Go.Proofs.Ytggmifnblcjdfaa.AArr Go.Proofs.Ytggmifnblcjdfaa.ALive
set_option linter.unusedVariables false
set_option linter.unusedSimpArgs false
theorem sumM_mem {l : List MemV} {x : MemV} (h : x ∈ l) : szM x ≤ sumM l := by
  induction l with
  | nil => cases h
  | cons y l ih =>
    simp only [sumM]
    rcases List.mem_cons.1 h with rfl | h
    · omega
    · have := ih h; omega
theorem smallA_of (a : ArrV) (h : (szA a : Int) ≤ 1048576) : SmallA a := by
  have h1 := totW_sum a.dirty
  unfold szA szMS at h
  exact ⟨by omega, fun x hx => small_of x (by have := sumM_mem hx; omega), by omega, fun x hx => by have := totW_mem hx; omega⟩
set_option maxHeartbeats 8000000 in
set_option maxRecDepth 100000 in
theorem law_LiveAt {w : World} {v : Value} {a : ArrV} {m s : Int} (h : ArrR w v a) : Calls Try.prog 3 #[v, .int .i64 m, .int .i64 s] w fun e w' => e = .returned (.bool true) ∧ Below w.heap.size w w' := by
  have H := Aside0.mk h
  obtain ⟨vm, vd, rfl, r1, r2⟩ := h
  clear r1 r2
  by_cases hz : (1048576 : Int) - (szA a : Int) < 0
  · have HZ := Aside0.mk hz
    obtain ⟨id, gn, gs, mems, lost, built, seq, tail, gen, dirty, fuse, down, broken⟩ := a
    simp only [arrC] at *
    go_enter Try.func3, Try.ntmps3
    go_wp2_with (first
      | (go_at_call 11; refine (c_szArr (ArrR_below H.out (below_alloc (Below.refl _ _) _)) (by omega) (by omega)).mono ?_; rw [sub0_neg HZ.out]; rintro e w1 ⟨rfl, hb⟩; have HS1 := Aside0.mk (((Sep.start w []).alloc (g := w.heap.size) rfl #[.int .i64 id, .int .i64 gn, .int .i64 gs, vm, .int .i64 lost, .int .i64 built, .int .i64 seq, .int .i64 tail, .int .i64 gen, vd, .int .i64 fuse, .bool down, .bool broken] 27).below hb); clear hb)
      | fail)
    go_ret
    exact ⟨rfl, HS1.out.toBelow⟩
  · have HZ := Aside0.mk hz
    have hsm : SmallA a := smallA_of a (by omega)
    have HSm := Aside0.mk hsm
    clear hsm
    obtain ⟨id, gn, gs, mems, lost, built, seq, tail, gen, dirty, fuse, down, broken⟩ := a
    simp only [arrC] at *
    generalize hla : liveB (⟨id, gn, gs, mems, lost, built, seq, tail, gen, dirty, fuse, down, broken⟩ : ArrV) m s = lb at *
    have HLB := Aside0.mk hla
    clear hla
    go_enter Try.func3, Try.ntmps3
    go_upto_region 5 with (first
      | (go_at_call 11; refine (c_szArr (ArrR_below H.out (below_alloc (Below.refl _ _) _)) (by omega) (by omega)).mono ?_; rw [sub0_pos (by have := HZ.out; omega)]; rintro e w1 ⟨rfl, hb⟩; have HS1 := Aside0.mk (((Sep.start w []).alloc (g := w.heap.size) rfl #[.int .i64 id, .int .i64 gn, .int .i64 gs, vm, .int .i64 lost, .int .i64 built, .int .i64 seq, .int .i64 tail, .int .i64 gen, vd, .int .i64 fuse, .bool down, .bool broken] 27).below hb); clear hb)
      | fail)
    obtain ⟨a0_, a1_, a2_, a3_, a4_, a5_, a6_, a7_, a8_, a9_, a10_, a11_, a12_⟩ := thirteen (HS1.out.get 0 rfl)
    go_upto_region 6 with (first
      | (go_at_call 13; refine (c_toArr (ArrR_below H.out HS1.out.toBelow) HSm.out).mono ?_; rintro e w2 ⟨u2, F2, rfl, hn⟩; have HS2 := Aside0.mk (HS1.out.new hn); clear hn)
      | (go_at_call 12; refine (c_specLiveAt (ArrO_R (HS2.out.get 0 rfl))).mono ?_; rw [HLB.out]; rintro e w3 ⟨rfl, hb⟩; have HS3 := Aside0.mk (HS2.out.below hb); clear hb)
      | fail)
    have hB := HS3.out.sel [1] (by decide) (by simp)
    simp only [List.map_cons, List.map_nil, pick, List.getD_cons_succ, List.getD_cons_zero, List.set_cons_zero, List.set_cons_succ, List.eraseIdx_cons_zero, List.eraseIdx_cons_succ, List.setIfInBounds_toArray] at hB
    have HS4 := Aside0.mk hB
    clear hB
    clear a0_ a1_ a2_ a3_ a4_ a5_ a6_ a7_ a8_ a9_ a10_ a11_ a12_; obtain ⟨a0_, a1_, a2_, a3_, a4_, a5_, a6_, a7_, a8_, a9_, a10_, a11_, a12_⟩ := thirteen (HS4.out.get 0 rfl)
    go_upto_region 7 with (first
      | (go_at_call 13; refine (c_toArr (ArrR_below H.out HS4.out.toBelow) HSm.out).mono ?_; rintro e w5 ⟨u5, F5, rfl, hn⟩; have HS5 := Aside0.mk (HS4.out.new hn); clear hn; obtain ⟨A5, p5, B5, q5, rfl⟩ := ar_form HS5.out; simp only [arrC] at *)
      | fail)
    have hB := HS5.out.alloc (g := w5.heap.size) rfl #[.int .i64 id, .int .i64 gn, .int .i64 gs, .slice A5 mems.length p5, .int .i64 lost, .int .i64 built, .int .i64 seq, .int .i64 tail, .int .i64 gen, .slice B5 dirty.length q5, .int .i64 fuse, .bool down, .bool broken] 34
    generalize hgg : w5.heap.size = g6 at *
    generalize hww : w5.alloc (.cells #[.int .i64 id, .int .i64 gn, .int .i64 gs, .slice A5 mems.length p5, .int .i64 lost, .int .i64 built, .int .i64 seq, .int .i64 tail, .int .i64 gen, .slice B5 dirty.length q5, .int .i64 fuse, .bool down, .bool broken] 34 (0, 0)) = w6 at *
    have HS6 := Aside0.mk hB
    clear hB hgg hww
    clear a0_ a1_ a2_ a3_ a4_ a5_ a6_ a7_ a8_ a9_ a10_ a11_ a12_; obtain ⟨x0_, x1_, x2_, x3_, x4_, x5_, x6_, x7_, x8_, x9_, x10_, x11_, x12_⟩ := thirteen (HS6.out.get 0 rfl)
    go_upto_region 8 with (first
      | (go_at_call 14; refine (c_implLiveAt (ArrO_R (HS6.out.get 1 rfl))).mono ?_; rw [HLB.out]; rintro e w8 ⟨rfl, hb⟩; have HS8 := Aside0.mk (HS6.out.below hb); clear hb)
      | fail)
    clear x0_ x1_ x2_ x3_ x4_ x5_ x6_ x7_ x8_ x9_ x10_ x11_ x12_
    obtain ⟨x0_, x1_, x2_, x3_, x4_, x5_, x6_, x7_, x8_, x9_, x10_, x11_, x12_⟩ := thirteen (HS8.out.get 0 rfl)
    obtain ⟨a0_, a1_, a2_, a3_, a4_, a5_, a6_, a7_, a8_, a9_, a10_, a11_, a12_⟩ := thirteen (HS8.out.get 2 rfl)
    go_upto_region 10 with fail
    refine wp_region_seq (fun w' => w'.cell? ⟨g6, 0, none⟩ = some (.int .i64 id) ∧ w'.cell? ⟨g6, 1, none⟩ = some (.int .i64 gn) ∧ w'.cell? ⟨g6, 2, none⟩ = some (.int .i64 gs) ∧ w'.cell? ⟨g6, 3, none⟩ = some (.slice A5 mems.length p5) ∧ w'.cell? ⟨g6, 4, none⟩ = some (.int .i64 lost) ∧ w'.cell? ⟨g6, 5, none⟩ = some (.int .i64 built) ∧ w'.cell? ⟨g6, 6, none⟩ = some (.int .i64 seq) ∧ w'.cell? ⟨g6, 7, none⟩ = some (.int .i64 tail) ∧ w'.cell? ⟨g6, 8, none⟩ = some (.int .i64 gen) ∧ w'.cell? ⟨g6, 9, none⟩ = some (.slice B5 dirty.length q5) ∧ w'.cell? ⟨g6, 10, none⟩ = some (.int .i64 fuse) ∧ w'.cell? ⟨g6, 11, none⟩ = some (.bool down) ∧ w'.cell? ⟨g6, 12, none⟩ = some (.bool broken) ∧ w'.cell? ⟨w.heap.size, 0, none⟩ = some (.int .i64 id) ∧ w'.cell? ⟨w.heap.size, 1, none⟩ = some (.int .i64 gn) ∧ w'.cell? ⟨w.heap.size, 2, none⟩ = some (.int .i64 gs) ∧ w'.cell? ⟨w.heap.size, 3, none⟩ = some (vm) ∧ w'.cell? ⟨w.heap.size, 4, none⟩ = some (.int .i64 lost) ∧ w'.cell? ⟨w.heap.size, 5, none⟩ = some (.int .i64 built) ∧ w'.cell? ⟨w.heap.size, 6, none⟩ = some (.int .i64 seq) ∧ w'.cell? ⟨w.heap.size, 7, none⟩ = some (.int .i64 tail) ∧ w'.cell? ⟨w.heap.size, 8, none⟩ = some (.int .i64 gen) ∧ w'.cell? ⟨w.heap.size, 9, none⟩ = some (vd) ∧ w'.cell? ⟨w.heap.size, 10, none⟩ = some (.int .i64 fuse) ∧ w'.cell? ⟨w.heap.size, 11, none⟩ = some (.bool down) ∧ w'.cell? ⟨w.heap.size, 12, none⟩ = some (.bool broken)) [] [(0, true), (1, true), (2, false), (3, false), (4, true)] (by kernel_rfl) (by kernel_rfl) ?_
    have hS : (fun w' : World => w'.cell? ⟨g6, 0, none⟩ = some (.int .i64 id) ∧ w'.cell? ⟨g6, 1, none⟩ = some (.int .i64 gn) ∧ w'.cell? ⟨g6, 2, none⟩ = some (.int .i64 gs) ∧ w'.cell? ⟨g6, 3, none⟩ = some (.slice A5 mems.length p5) ∧ w'.cell? ⟨g6, 4, none⟩ = some (.int .i64 lost) ∧ w'.cell? ⟨g6, 5, none⟩ = some (.int .i64 built) ∧ w'.cell? ⟨g6, 6, none⟩ = some (.int .i64 seq) ∧ w'.cell? ⟨g6, 7, none⟩ = some (.int .i64 tail) ∧ w'.cell? ⟨g6, 8, none⟩ = some (.int .i64 gen) ∧ w'.cell? ⟨g6, 9, none⟩ = some (.slice B5 dirty.length q5) ∧ w'.cell? ⟨g6, 10, none⟩ = some (.int .i64 fuse) ∧ w'.cell? ⟨g6, 11, none⟩ = some (.bool down) ∧ w'.cell? ⟨g6, 12, none⟩ = some (.bool broken) ∧ w'.cell? ⟨w.heap.size, 0, none⟩ = some (.int .i64 id) ∧ w'.cell? ⟨w.heap.size, 1, none⟩ = some (.int .i64 gn) ∧ w'.cell? ⟨w.heap.size, 2, none⟩ = some (.int .i64 gs) ∧ w'.cell? ⟨w.heap.size, 3, none⟩ = some (vm) ∧ w'.cell? ⟨w.heap.size, 4, none⟩ = some (.int .i64 lost) ∧ w'.cell? ⟨w.heap.size, 5, none⟩ = some (.int .i64 built) ∧ w'.cell? ⟨w.heap.size, 6, none⟩ = some (.int .i64 seq) ∧ w'.cell? ⟨w.heap.size, 7, none⟩ = some (.int .i64 tail) ∧ w'.cell? ⟨w.heap.size, 8, none⟩ = some (.int .i64 gen) ∧ w'.cell? ⟨w.heap.size, 9, none⟩ = some (vd) ∧ w'.cell? ⟨w.heap.size, 10, none⟩ = some (.int .i64 fuse) ∧ w'.cell? ⟨w.heap.size, 11, none⟩ = some (.bool down) ∧ w'.cell? ⟨w.heap.size, 12, none⟩ = some (.bool broken)) w8.drew := ⟨x0_, x1_, x2_, x3_, x4_, x5_, x6_, x7_, x8_, x9_, x10_, x11_, x12_, a0_, a1_, a2_, a3_, a4_, a5_, a6_, a7_, a8_, a9_, a10_, a11_, a12_⟩
    iterate 2 (refine seq_take hS rfl (fun _ _ _ h => h) (by rfl) (fun w_ hSw => by (try dsimp only at hSw); go_simp; first | done | with_reducible rfl) ?_; (try simp only [Act.put, List.getElem_toArray, List.getElem_cons_succ, List.getElem_cons_zero, List.setIfInBounds_toArray, List.set_cons_zero, List.set_cons_succ]))
    refine seq_step rfl (fun K hK => ?_)
    go_simp
    go_at_call 13; refine (c_toArr (ArrR_below H.out HS8.out.drew.toBelow) HSm.out).mono ?_; rintro e w10 ⟨u10, F10, rfl, hn⟩
    have HS10 := Aside0.mk (HS8.out.drew.new hn)
    clear hn hS x0_ x1_ x2_ x3_ x4_ x5_ x6_ x7_ x8_ x9_ x10_ x11_ x12_ a0_ a1_ a2_ a3_ a4_ a5_ a6_ a7_ a8_ a9_ a10_ a11_ a12_
    obtain ⟨x0_, x1_, x2_, x3_, x4_, x5_, x6_, x7_, x8_, x9_, x10_, x11_, x12_⟩ := thirteen (HS10.out.get 1 rfl)
    obtain ⟨a0_, a1_, a2_, a3_, a4_, a5_, a6_, a7_, a8_, a9_, a10_, a11_, a12_⟩ := thirteen (HS10.out.get 3 rfl)
    have hS : (fun w' : World => w'.cell? ⟨g6, 0, none⟩ = some (.int .i64 id) ∧ w'.cell? ⟨g6, 1, none⟩ = some (.int .i64 gn) ∧ w'.cell? ⟨g6, 2, none⟩ = some (.int .i64 gs) ∧ w'.cell? ⟨g6, 3, none⟩ = some (.slice A5 mems.length p5) ∧ w'.cell? ⟨g6, 4, none⟩ = some (.int .i64 lost) ∧ w'.cell? ⟨g6, 5, none⟩ = some (.int .i64 built) ∧ w'.cell? ⟨g6, 6, none⟩ = some (.int .i64 seq) ∧ w'.cell? ⟨g6, 7, none⟩ = some (.int .i64 tail) ∧ w'.cell? ⟨g6, 8, none⟩ = some (.int .i64 gen) ∧ w'.cell? ⟨g6, 9, none⟩ = some (.slice B5 dirty.length q5) ∧ w'.cell? ⟨g6, 10, none⟩ = some (.int .i64 fuse) ∧ w'.cell? ⟨g6, 11, none⟩ = some (.bool down) ∧ w'.cell? ⟨g6, 12, none⟩ = some (.bool broken) ∧ w'.cell? ⟨w.heap.size, 0, none⟩ = some (.int .i64 id) ∧ w'.cell? ⟨w.heap.size, 1, none⟩ = some (.int .i64 gn) ∧ w'.cell? ⟨w.heap.size, 2, none⟩ = some (.int .i64 gs) ∧ w'.cell? ⟨w.heap.size, 3, none⟩ = some (vm) ∧ w'.cell? ⟨w.heap.size, 4, none⟩ = some (.int .i64 lost) ∧ w'.cell? ⟨w.heap.size, 5, none⟩ = some (.int .i64 built) ∧ w'.cell? ⟨w.heap.size, 6, none⟩ = some (.int .i64 seq) ∧ w'.cell? ⟨w.heap.size, 7, none⟩ = some (.int .i64 tail) ∧ w'.cell? ⟨w.heap.size, 8, none⟩ = some (.int .i64 gen) ∧ w'.cell? ⟨w.heap.size, 9, none⟩ = some (vd) ∧ w'.cell? ⟨w.heap.size, 10, none⟩ = some (.int .i64 fuse) ∧ w'.cell? ⟨w.heap.size, 11, none⟩ = some (.bool down) ∧ w'.cell? ⟨w.heap.size, 12, none⟩ = some (.bool broken)) w10 := ⟨x0_, x1_, x2_, x3_, x4_, x5_, x6_, x7_, x8_, x9_, x10_, x11_, x12_, a0_, a1_, a2_, a3_, a4_, a5_, a6_, a7_, a8_, a9_, a10_, a11_, a12_⟩
    refine hK.out _ _ ⟨fun _ => hS, ?_⟩; clear hK K; (try simp only [Act.put, List.getElem_toArray, List.getElem_cons_succ, List.getElem_cons_zero, List.setIfInBounds_toArray, List.set_cons_zero, List.set_cons_succ])
    refine seq_step rfl (fun K hK => ?_)
    go_simp
    go_at_call 15; refine (c_eqArr (ArrO_R (HS10.out.get 2 rfl)) (ArrO_R (HS10.out.get 0 rfl))).mono ?_; rintro e w11 ⟨rfl, hb⟩
    have HS11 := Aside0.mk (HS10.out.below hb)
    clear hb hS x0_ x1_ x2_ x3_ x4_ x5_ x6_ x7_ x8_ x9_ x10_ x11_ x12_ a0_ a1_ a2_ a3_ a4_ a5_ a6_ a7_ a8_ a9_ a10_ a11_ a12_
    obtain ⟨x0_, x1_, x2_, x3_, x4_, x5_, x6_, x7_, x8_, x9_, x10_, x11_, x12_⟩ := thirteen (HS11.out.get 1 rfl)
    obtain ⟨a0_, a1_, a2_, a3_, a4_, a5_, a6_, a7_, a8_, a9_, a10_, a11_, a12_⟩ := thirteen (HS11.out.get 3 rfl)
    have hS : (fun w' : World => w'.cell? ⟨g6, 0, none⟩ = some (.int .i64 id) ∧ w'.cell? ⟨g6, 1, none⟩ = some (.int .i64 gn) ∧ w'.cell? ⟨g6, 2, none⟩ = some (.int .i64 gs) ∧ w'.cell? ⟨g6, 3, none⟩ = some (.slice A5 mems.length p5) ∧ w'.cell? ⟨g6, 4, none⟩ = some (.int .i64 lost) ∧ w'.cell? ⟨g6, 5, none⟩ = some (.int .i64 built) ∧ w'.cell? ⟨g6, 6, none⟩ = some (.int .i64 seq) ∧ w'.cell? ⟨g6, 7, none⟩ = some (.int .i64 tail) ∧ w'.cell? ⟨g6, 8, none⟩ = some (.int .i64 gen) ∧ w'.cell? ⟨g6, 9, none⟩ = some (.slice B5 dirty.length q5) ∧ w'.cell? ⟨g6, 10, none⟩ = some (.int .i64 fuse) ∧ w'.cell? ⟨g6, 11, none⟩ = some (.bool down) ∧ w'.cell? ⟨g6, 12, none⟩ = some (.bool broken) ∧ w'.cell? ⟨w.heap.size, 0, none⟩ = some (.int .i64 id) ∧ w'.cell? ⟨w.heap.size, 1, none⟩ = some (.int .i64 gn) ∧ w'.cell? ⟨w.heap.size, 2, none⟩ = some (.int .i64 gs) ∧ w'.cell? ⟨w.heap.size, 3, none⟩ = some (vm) ∧ w'.cell? ⟨w.heap.size, 4, none⟩ = some (.int .i64 lost) ∧ w'.cell? ⟨w.heap.size, 5, none⟩ = some (.int .i64 built) ∧ w'.cell? ⟨w.heap.size, 6, none⟩ = some (.int .i64 seq) ∧ w'.cell? ⟨w.heap.size, 7, none⟩ = some (.int .i64 tail) ∧ w'.cell? ⟨w.heap.size, 8, none⟩ = some (.int .i64 gen) ∧ w'.cell? ⟨w.heap.size, 9, none⟩ = some (vd) ∧ w'.cell? ⟨w.heap.size, 10, none⟩ = some (.int .i64 fuse) ∧ w'.cell? ⟨w.heap.size, 11, none⟩ = some (.bool down) ∧ w'.cell? ⟨w.heap.size, 12, none⟩ = some (.bool broken)) w11 := ⟨x0_, x1_, x2_, x3_, x4_, x5_, x6_, x7_, x8_, x9_, x10_, x11_, x12_, a0_, a1_, a2_, a3_, a4_, a5_, a6_, a7_, a8_, a9_, a10_, a11_, a12_⟩
    refine hK.out _ _ ⟨fun _ => hS, ?_⟩; clear hK K; (try simp only [Act.put, List.getElem_toArray, List.getElem_cons_succ, List.getElem_cons_zero, List.setIfInBounds_toArray, List.set_cons_zero, List.set_cons_succ])
    iterate 1 (refine seq_take hS rfl (fun _ _ _ h => h) (by rfl) (fun w_ hSw => by (try dsimp only at hSw); go_simp; first | done | with_reducible rfl) ?_; (try simp only [Act.put, List.getElem_toArray, List.getElem_cons_succ, List.getElem_cons_zero, List.setIfInBounds_toArray, List.set_cons_zero, List.set_cons_succ]))
    clear hS
    refine seq_done ?_
    go_wp2
    go_ret
    exact ⟨rfl, HS11.out.toBelow⟩
end Go.Proofs.Ytggmifnblcjdfaa.LawLiveAt
