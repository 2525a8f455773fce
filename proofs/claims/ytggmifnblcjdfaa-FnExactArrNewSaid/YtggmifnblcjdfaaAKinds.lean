/- An array of disks: how it lies in memory, read or owned. -/
import Derived.Test.YtggmifnblcjdfaaLawLib
import Derived.Test.YtggmifnblcjdfaaSepT
namespace Go.Proofs.Ytggmifnblcjdfaa.AKinds
open Go.RowKit Go.Proofs.YtggmifnblcjdfaaW.PrintWords Go.Proofs.Ytggmifnblcjdfaa.Fp Go.Proofs.Ytggmifnblcjdfaa.MInt Go.Proofs.Ytggmifnblcjdfaa.MKinds Go.Proofs.Ytggmifnblcjdfaa.MRead Go.Proofs.Ytggmifnblcjdfaa.MMake Go.Proofs.Ytggmifnblcjdfaa.MPut Go.Proofs.Ytggmifnblcjdfaa.MHeld Go.Proofs.Ytggmifnblcjdfaa.Sep
set_option linter.unusedVariables false
set_option linter.unusedSimpArgs false
structure ArrV where
  id : Int
  gn : Int
  gs : Int
  mems : List MemV
  lost : Int
  built : Int
  seq : Int
  tail : Int
  gen : Int
  dirty : List (Int × List Int)
  fuse : Int
  down : Bool
  broken : Bool
  deriving DecidableEq
/-- The cells of an array. -/
abbrev arrC (a : ArrV) (vm vd : Value) : Array Value := #[.int .i64 a.id, .int .i64 a.gn, .int .i64 a.gs, vm, .int .i64 a.lost, .int .i64 a.built, .int .i64 a.seq, .int .i64 a.tail, .int .i64 a.gen, vd, .int .i64 a.fuse, .bool a.down, .bool a.broken]
@[reducible] def kMems : Kd (List MemV) := Kd.slice 57 kMem
def ArrR (w : World) (v : Value) (a : ArrV) : Prop := ∃ vm vd, v = .agg (arrC a vm vd) ∧ RK kMem w vm a.mems ∧ RK kWr w vd a.dirty
def ArrO (w : World) (F : List Nat) (v : Value) (a : ArrV) : Prop := ∃ vm vd F1 F2, v = .agg (arrC a vm vd) ∧ F = F1 ++ F2 ∧ oMem.O 57 w F1 vm a.mems ∧ oWr.O 94 w F2 vd a.dirty
theorem ArrR_below {w w1 : World} {v : Value} {a : ArrV} (h : ArrR w v a) (hb : Below w.heap.size w w1) : ArrR w1 v a := by
  obtain ⟨vm, vd, rfl, h1, h2⟩ := h
  exact ⟨vm, vd, rfl, RK_below h1 hb, RK_below h2 hb⟩
theorem oMem_RK {e : TypeId} {w : World} {F : List Nat} {v : Value} {xs : List MemV} (h : oMem.O e w F v xs) : RK kMem w v xs := O_RK h
theorem ArrO_R {w : World} {F : List Nat} {v : Value} {a : ArrV} (h : ArrO w F v a) : ArrR w v a := by
  obtain ⟨vm, vd, F1, F2, rfl, rfl, h1, h2⟩ := h
  exact ⟨vm, vd, rfl, oMem_RK h1, O_RK h2⟩
theorem ArrO_lt {w : World} {F : List Nat} {v : Value} {a : ArrV} (h : ArrO w F v a) : ∀ k ∈ F, k < w.heap.size := by
  obtain ⟨vm, vd, F1, F2, rfl, rfl, h1, h2⟩ := h
  intro k hk
  rcases List.mem_append.1 hk with hk | hk
  · exact O_lt h1 k hk
  · exact O_lt h2 k hk
theorem ArrO_move {w w1 : World} {F : List Nat} {v : Value} {a : ArrV} (h : ArrO w F v a) (hm : ∀ k ∈ F, w1.heap[k]? = w.heap[k]?) : ArrO w1 F v a := by
  obtain ⟨vm, vd, F1, F2, rfl, rfl, h1, h2⟩ := h
  exact ⟨vm, vd, F1, F2, rfl, rfl, O_move h1 (fun k hk => hm k (List.mem_append_left _ hk)), O_move h2 (fun k hk => hm k (List.mem_append_right _ hk))⟩
/-- An array that is owned. -/
def ar (F : List Nat) (v : Value) (a : ArrV) : Res := (F, fun w => ArrO w F v a)
theorem lies_arr {w : World} {F : List Nat} {v : Value} {a : ArrV} (h : ArrO w F v a) : Lies w (ar F v a) := ⟨ArrO_lt h, fun w' hm => ArrO_move h hm⟩
def SmallA (a : ArrV) : Prop := a.mems.length ≤ 16777216 ∧ (∀ m ∈ a.mems, Small m) ∧ a.dirty.length ≤ 16777216 ∧ ∀ e ∈ a.dirty, e.2.length ≤ 16777216
section
variable {w0 w w' : World} {S : List Nat} {L : List Res}
theorem Sep.toArr {F1 F2 : List Nat} {vm vd : Value} {a : ArrV} (h : Sep w0 S w (rw_ oMem 57 F1 vm a.mems :: rw_ oWr 94 F2 vd a.dirty :: L)) : Sep w0 S w (ar (F1 ++ F2) (.agg (arrC a vm vd)) a :: L) :=
  Sep.glue (M := [rw_ oMem 57 F1 vm a.mems, rw_ oWr 94 F2 vd a.dirty]) h (by simp [fps, rw_, ar]) (lies_arr ⟨vm, vd, F1, F2, rfl, rfl, h.get 0 rfl, h.get 1 rfl⟩)
theorem Sep.ofArr {F : List Nat} {u : Value} {a : ArrV} (h : Sep w0 S w (ar F u a :: L)) : ∃ A1 c1 A2 c2 F1 F2, u = .agg (arrC a (.slice A1 a.mems.length c1) (.slice A2 a.dirty.length c2)) ∧
    Sep w0 S w (rw_ oMem 57 F1 (.slice A1 a.mems.length c1) a.mems :: rw_ oWr 94 F2 (.slice A2 a.dirty.length c2) a.dirty :: L) := by
  obtain ⟨vm, vd, F1, F2, rfl, rfl, h1, h2⟩ := (show ArrO w F u a from h.get 0 rfl)
  obtain ⟨A1, c1, rfl, _⟩ := O_reads h1
  obtain ⟨A2, c2, rfl, _⟩ := O_reads h2
  refine ⟨A1, c1, A2, c2, F1, F2, rfl, h.part 0 rfl (M := [rw_ oMem 57 F1 _ a.mems, rw_ oWr 94 F2 _ a.dirty]) (by simp [fps, rw_, ar]) ?_⟩
  intro r hr
  simp only [List.mem_cons, List.not_mem_nil, or_false] at hr
  rcases hr with rfl | rfl
  · exact lies_row h1
  · exact lies_row h2
theorem ar_form {F : List Nat} {u : Value} {a : ArrV} (h : Sep w0 S w (ar F u a :: L)) : ∃ A1 c1 A2 c2, u = .agg (arrC a (.slice A1 a.mems.length c1) (.slice A2 a.dirty.length c2)) := by
  obtain ⟨A1, c1, A2, c2, F1, F2, hu, _⟩ := Sep.ofArr h
  exact ⟨A1, c1, A2, c2, hu⟩
end
/-- The cells of a box that holds an array. -/
theorem thirteen {w : World} {g : Nat} {t : TypeId} {a0 a1 a2 a3 a4 a5 a6 a7 a8 a9 a10 a11 a12 : Value} (h : w.heap[g]? = some (.cells #[a0, a1, a2, a3, a4, a5, a6, a7, a8, a9, a10, a11, a12] t (0, 0))) :
    w.cell? ⟨g, 0, none⟩ = some a0 ∧ w.cell? ⟨g, 1, none⟩ = some a1 ∧ w.cell? ⟨g, 2, none⟩ = some a2 ∧ w.cell? ⟨g, 3, none⟩ = some a3 ∧ w.cell? ⟨g, 4, none⟩ = some a4 ∧ w.cell? ⟨g, 5, none⟩ = some a5 ∧ w.cell? ⟨g, 6, none⟩ = some a6 ∧ w.cell? ⟨g, 7, none⟩ = some a7 ∧ w.cell? ⟨g, 8, none⟩ = some a8 ∧ w.cell? ⟨g, 9, none⟩ = some a9 ∧ w.cell? ⟨g, 10, none⟩ = some a10 ∧ w.cell? ⟨g, 11, none⟩ = some a11 ∧ w.cell? ⟨g, 12, none⟩ = some a12 :=
  ⟨(blk_cell h 0).trans rfl, (blk_cell h 1).trans rfl, (blk_cell h 2).trans rfl, (blk_cell h 3).trans rfl, (blk_cell h 4).trans rfl, (blk_cell h 5).trans rfl, (blk_cell h 6).trans rfl, (blk_cell h 7).trans rfl, (blk_cell h 8).trans rfl, (blk_cell h 9).trans rfl, (blk_cell h 10).trans rfl, (blk_cell h 11).trans rfl, (blk_cell h 12).trans rfl⟩
/-- A row of disks, read: the cells of a disk. -/
theorem RK_mems {w : World} {v : Value} {l : List MemV} (h : RK kMem w v l) (hn : 0 < l.length) :
    ∃ ad cap, v = .slice (some ad) l.length cap ∧ ∀ (i : Nat) (x : MemV), l[i]? = some x → ∃ A1 c1 A2 c2 A3 c3, w.cell? (ad.add (i * 4)) = some (.slice A1 x.secs.length c1) ∧ w.cell? ⟨(ad.add (i * 4)).block, (ad.add (i * 4)).off + 1, none⟩ = some (.slice A2 x.cache.length c2) ∧ w.cell? ⟨(ad.add (i * 4)).block, (ad.add (i * 4)).off + 2, none⟩ = some (.bool x.failed) ∧ w.cell? ⟨(ad.add (i * 4)).block, (ad.add (i * 4)).off + 3, none⟩ = some (.slice A3 x.bad.length c3) ∧ MemR w (.agg #[.slice A1 x.secs.length c1, .slice A2 x.cache.length c2, .bool x.failed, .slice A3 x.bad.length c3]) x := by
  obtain ⟨A, cap, rfl, hl, hC⟩ := h
  obtain ⟨ad, rfl, hc⟩ := hC.2.2 hn
  refine ⟨ad, cap, rfl, fun i x hi => ?_⟩
  obtain ⟨c, _, hK, hcell⟩ := hc i x hi
  have hM := kMem_K.1 hK
  obtain ⟨s, cc, b, hv, r1, r2, r3⟩ := id hM
  have : c = [s, cc, .bool x.failed, b] := congrArg Array.toList (Value.agg.inj hv)
  subst this
  obtain ⟨A1, c1, rfl, _⟩ := id r1
  obtain ⟨A2, c2, rfl, _⟩ := id r2
  obtain ⟨A3, c3, rfl, _⟩ := id r3
  refine ⟨A1, c1, A2, c2, A3, c3, hcell 0 _ rfl, ?_, ?_, ?_, hM⟩
  · rw [← add_off _ _ _ (by decide)]; exact hcell 1 _ rfl
  · rw [← add_off _ _ _ (by decide)]; exact hcell 2 _ rfl
  · rw [← add_off _ _ _ (by decide)]; exact hcell 3 _ rfl
end Go.Proofs.Ytggmifnblcjdfaa.AKinds
