/- Operations over what a function holds: append, make, at a list of operations and at a step of a region. -/
import Derived.Test.YtlmnmcfieagmbaaSep
import Derived.Test.YtlmnmcfieagmbaaFpStep
import Derived.Test.YtlmnmcfieagmbaaRJ
namespace Go.Proofs.Ytlmnmcfieagmbaa.SepStep
open Go.RowKit Go.Proofs.Ytlmnmcfieagmbaa.RJ Go.Proofs.YtlmnmcfieagmbaaW.PrintWords Go.Proofs.Ytlmnmcfieagmbaa.Fp Go.Proofs.Ytlmnmcfieagmbaa.FpStep Go.Proofs.Ytlmnmcfieagmbaa.MInt Go.Proofs.Ytlmnmcfieagmbaa.MKinds Go.Proofs.Ytlmnmcfieagmbaa.MRead Go.Proofs.Ytlmnmcfieagmbaa.MMake Go.Proofs.Ytlmnmcfieagmbaa.MPut Go.Proofs.Ytlmnmcfieagmbaa.Sep
set_option linter.unusedVariables false
set_option linter.unusedSimpArgs false
theorem take_snoc {α : Type} {l : List α} {i : Nat} {x : α} (h : l[i]? = some x) : l.take (i + 1) = l.take i ++ [x] := by
  obtain ⟨h4, h5⟩ := List.getElem?_eq_some_iff.1 h
  rw [List.take_succ_eq_append_getElem h4, h5]
theorem cell_alloc {w : World} {a : Addr} {v : Value} (h : w.cell? a = some v) (o : Obj) : (w.alloc o).cell? a = some v := ((below_alloc (Below.refl _ _) o).cell (lt_of_cell h)).trans h
theorem frozen_alloc {w : World} {g : Nat} {t : TypeId} {cs : Array Value} (h : w.heap[g]? = some (.cells cs t (0, 0))) (o : Obj) (i : Nat) : (w.alloc o).frozen? ⟨g, i, none⟩ = false := blk_frozen (blk_alloc h o) i
theorem cell_far {w : World} {g : Nat} {u : Value} {a : Addr} {x : Value} {i : Nat} (h : w.cell? a = some x) (hg : g ≠ a.block) : (w.setCell ⟨g, i, none⟩ u).cell? a = some x := (World.cell?_setCell_far _ _ _ _ hg).trans h
theorem far4 {w : World} {g : Nat} {u0 u1 u2 u3 : Value} {a : Addr} {x : Value} (hg : g ≠ a.block) (h : w.cell? a = some x) : ((((w.setCell ⟨g, 0, none⟩ u0).setCell ⟨g, 1, none⟩ u1).setCell ⟨g, 2, none⟩ u2).setCell ⟨g, 3, none⟩ u3).cell? a = some x := by
  rw [World.cell?_setCell_far _ _ _ _ hg, World.cell?_setCell_far _ _ _ _ hg, World.cell?_setCell_far _ _ _ _ hg, World.cell?_setCell_far _ _ _ _ hg]; exact h
section
variable {α : Type} {P : Program} {ops : Array Oper} {rest : List Oper} {o : Oper} {a : Act} {K : Act → World → Prop} {Q : Exit → Act → World → Prop} {E : Prop} {w0 W Wd : World} {S : List Nat} {L : List Res}
/-- append(v, y): y is owned by the second thing. -/
theorem step_app {d : Od α} {e : TypeId} {F G : List Nat} {v : Value} {xs : List α} {y : α} {p : World → Prop} (HS : Sep w0 S W (rw_ d e F v xs :: (G, p) :: L)) (nd : Nat) (hgd : o.guard = none) (s x : Operand) (t : TypeId) (z : Value) (bytes : Nat)
    (ho : o.op = .call { callee := .builtin .append, args := #[s, x], argTypes := #[t, t] })
    (ht : P.underlying t = some (.slice e)) (hinfo : (P.info? e).map (fun i => (i.zero, i.size, i.bytes)) = some (some z, d.sz, bytes)) (hz : z.cells.size = d.sz) (hs0 : 0 < d.sz) (hb0 : 0 < bytes)
    (ys : List Value) (hy : d.M W G y ys) (hW : Wd = (W.alloc (.cells ys.toArray e)).drewN nd) (hs : a.eval s = v) (hx : a.eval x = .slice (some ⟨W.heap.size, 0, none⟩) 1 1) {n : Nat} (hn : xs.length = n) (hl : (n + 1) * bytes ≤ 140737488355328)
    (h : ∀ g cap w1 F1, Sep w0 S w1 (rw_ d e F1 (.slice (some ⟨g, 0, none⟩) (n + 1) cap) (xs ++ [y]) :: L) → K (a.put o.dst (.slice (some ⟨g, 0, none⟩) (n + 1) cap)) w1) :
    if Region.wanted o (yielded ops a.tmps) = true then Oper.wp P o a Wd K Q else E := by
  subst hn
  refine step_append_O d W nd hgd s x t e z bytes ho ht hinfo hz hs0 hb0 v xs F y G ys hW hs hx (HS.get 0 rfl) (HS.fnd 0 rfl) hy (HS.fnd (r := (G, p)) 1 rfl) (HS.apart (r := (G, p)) 1 0 rfl rfl (by decide)) hl ?_
  intro g cap w1 F1 ho1 hn1 hs1 hc1
  refine h g cap w1 F1 (HS.two (r := rw_ d e F1 _ _) (hc1.mono (fun k hk => List.mem_append_left _ hk)) hn1 (fun k hk => ?_) (lies_row ho1))
  rcases hs1 k hk with q | q | q
  · exact .inl (List.mem_append_left _ q)
  · exact .inl (List.mem_append_right _ q)
  · exact .inr q
/-- append(v, y): y owns nothing. -/
theorem step_app0 {d : Od α} {e : TypeId} {F : List Nat} {v : Value} {xs : List α} {y : α} (HS : Sep w0 S W (rw_ d e F v xs :: L)) (nd : Nat) (hgd : o.guard = none) (s x : Operand) (t : TypeId) (z : Value) (bytes : Nat)
    (ho : o.op = .call { callee := .builtin .append, args := #[s, x], argTypes := #[t, t] })
    (ht : P.underlying t = some (.slice e)) (hinfo : (P.info? e).map (fun i => (i.zero, i.size, i.bytes)) = some (some z, d.sz, bytes)) (hz : z.cells.size = d.sz) (hs0 : 0 < d.sz) (hb0 : 0 < bytes)
    (ys : List Value) (hy : d.M W [] y ys) (hW : Wd = (W.alloc (.cells ys.toArray e)).drewN nd) (hs : a.eval s = v) (hx : a.eval x = .slice (some ⟨W.heap.size, 0, none⟩) 1 1) {n : Nat} (hn : xs.length = n) (hl : (n + 1) * bytes ≤ 140737488355328)
    (h : ∀ g cap w1 F1, Sep w0 S w1 (rw_ d e F1 (.slice (some ⟨g, 0, none⟩) (n + 1) cap) (xs ++ [y]) :: L) → K (a.put o.dst (.slice (some ⟨g, 0, none⟩) (n + 1) cap)) w1) :
    if Region.wanted o (yielded ops a.tmps) = true then Oper.wp P o a Wd K Q else E :=
  step_app (G := []) (p := fun _ => True) ((HS.new (r := ([], fun _ => True)) ⟨Below.refl _ _, Fresh.nil _, ⟨by simp, fun _ _ => trivial⟩⟩).perm (List.Perm.swap _ _ _)) nd hgd s x t z bytes ho ht hinfo hz hs0 hb0 ys hy hW hs hx hn hl h
/-- append(v, u...), numbers: at a list. -/
theorem app_ints (k : IntKind) {e : TypeId} {F : List Nat} {v : Value} {xs : List Int} (HS : Sep w0 S W (rw_ (Od.int k) e F v xs :: L)) (hgd : o.guard = none) (s x : Operand) (t : TypeId) (bytes : Nat)
    (ho : o.op = .call { callee := .builtin .append, args := #[s, x], argTypes := #[t, t] })
    (ht : P.underlying t = some (.slice e)) (hinfo : (P.info? e).map (fun i => (i.zero, i.size, i.bytes)) = some (some (.int k 0), 1, bytes)) (hb0 : 0 < bytes)
    (u : Value) (ys : List Int) (hs : a.eval s = v) (hx : a.eval x = u) (HR : RK (Kd.int k) W u ys) (hl : (xs.length + ys.length) * bytes ≤ 140737488355328)
    (h : ∀ A c w1 F1, Sep w0 S w1 (rw_ (Od.int k) e F1 (.slice A (xs.length + ys.length) c) (xs ++ ys) :: L) → wpList P ops Q rest (a.put o.dst (.slice A (xs.length + ys.length) c)) w1) :
    wpList P ops Q (o :: rest) a W := by
  refine append_ints k hgd s x t e bytes ho ht hinfo hb0 v u xs ys F hs hx (HS.get 0 rfl) HR hl ?_
  intro v1 w1 F1 ho1 hn1 hs1 hc1
  obtain ⟨A, c, rfl, hq⟩ := O_reads ho1
  rw [List.length_append] at *
  exact h A c w1 F1 (HS.upd 0 rfl ⟨hc1, hn1, hs1, lies_row ho1⟩)
/-- .. at a step. -/
theorem step_ints (k : IntKind) {e : TypeId} {F : List Nat} {v : Value} {xs : List Int} (HS : Sep w0 S W (rw_ (Od.int k) e F v xs :: L)) (hgd : o.guard = none) (s x : Operand) (t : TypeId) (bytes : Nat)
    (ho : o.op = .call { callee := .builtin .append, args := #[s, x], argTypes := #[t, t] })
    (ht : P.underlying t = some (.slice e)) (hinfo : (P.info? e).map (fun i => (i.zero, i.size, i.bytes)) = some (some (.int k 0), 1, bytes)) (hb0 : 0 < bytes)
    (u : Value) (ys : List Int) (hs : a.eval s = v) (hx : a.eval x = u) (HR : RK (Kd.int k) W u ys) (hl : (xs.length + ys.length) * bytes ≤ 140737488355328)
    (h : ∀ A c w1 F1, Sep w0 S w1 (rw_ (Od.int k) e F1 (.slice A (xs.length + ys.length) c) (xs ++ ys) :: L) → K (a.put o.dst (.slice A (xs.length + ys.length) c)) w1) :
    if Region.wanted o (yielded ops a.tmps) = true then Oper.wp P o a W K Q else E :=
  step_of_list hgd (fun Q' hQ => app_ints k HS hgd s x t bytes ho ht hinfo hb0 u ys hs hx HR hl (fun A c w1 F1 hh => hQ _ _ (h A c w1 F1 hh)))
/-- append([]int{}, u...): at a list, at a step. -/
theorem copy_ints (k : IntKind) {e : TypeId} {F : List Nat} {v : Value} (HS : Sep w0 S W (rw_ (Od.int k) e F v [] :: L)) (hgd : o.guard = none) (s x : Operand) (t : TypeId) (bytes : Nat)
    (ho : o.op = .call { callee := .builtin .append, args := #[s, x], argTypes := #[t, t] })
    (ht : P.underlying t = some (.slice e)) (hinfo : (P.info? e).map (fun i => (i.zero, i.size, i.bytes)) = some (some (.int k 0), 1, bytes)) (hb0 : 0 < bytes)
    (u : Value) (ys : List Int) (hs : a.eval s = v) (hx : a.eval x = u) (HR : RK (Kd.int k) W u ys) (hl : ys.length * bytes ≤ 140737488355328)
    (h : ∀ A c w1 F1, Sep w0 S w1 (rw_ (Od.int k) e F1 (.slice A ys.length c) ys :: L) → wpList P ops Q rest (a.put o.dst (.slice A ys.length c)) w1) :
    wpList P ops Q (o :: rest) a W :=
  app_ints k HS hgd s x t bytes ho ht hinfo hb0 u ys hs hx HR (by simpa using hl) (fun A c w1 F1 hh => by
    simp only [List.length_nil, Nat.zero_add, List.nil_append] at hh ⊢
    exact h A c w1 F1 hh)
theorem step_copy (k : IntKind) {e : TypeId} {F : List Nat} {v : Value} (HS : Sep w0 S W (rw_ (Od.int k) e F v [] :: L)) (hgd : o.guard = none) (s x : Operand) (t : TypeId) (bytes : Nat)
    (ho : o.op = .call { callee := .builtin .append, args := #[s, x], argTypes := #[t, t] })
    (ht : P.underlying t = some (.slice e)) (hinfo : (P.info? e).map (fun i => (i.zero, i.size, i.bytes)) = some (some (.int k 0), 1, bytes)) (hb0 : 0 < bytes)
    (u : Value) (ys : List Int) (hs : a.eval s = v) (hx : a.eval x = u) (HR : RK (Kd.int k) W u ys) (hl : ys.length * bytes ≤ 140737488355328)
    (h : ∀ A c w1 F1, Sep w0 S w1 (rw_ (Od.int k) e F1 (.slice A ys.length c) ys :: L) → K (a.put o.dst (.slice A ys.length c)) w1) :
    if Region.wanted o (yielded ops a.tmps) = true then Oper.wp P o a W K Q else E :=
  step_of_list hgd (fun Q' hQ => copy_ints k HS hgd s x t bytes ho ht hinfo hb0 u ys hs hx HR hl (fun A c w1 F1 hh => hQ _ _ (h A c w1 F1 hh)))
end
end Go.Proofs.Ytlmnmcfieagmbaa.SepStep
