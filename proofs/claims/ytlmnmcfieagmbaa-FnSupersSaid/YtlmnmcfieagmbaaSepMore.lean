/- append of one element, at a list of operations, over what a function holds. -/
import Derived.Test.YtlmnmcfieagmbaaSepStep
import Derived.Deep.DrawnRows
import Derived.Deep.DeepCutAuto
import Derived.Tactics2
namespace Go.Proofs.Ytlmnmcfieagmbaa.SepStep
open Go.RowKit Go.Proofs.Ytlmnmcfieagmbaa.RJ Go.Proofs.YtlmnmcfieagmbaaW.PrintWords Go.Proofs.Ytlmnmcfieagmbaa.Fp Go.Proofs.Ytlmnmcfieagmbaa.FpStep Go.Proofs.Ytlmnmcfieagmbaa.MInt Go.Proofs.Ytlmnmcfieagmbaa.MKinds Go.Proofs.Ytlmnmcfieagmbaa.MRead Go.Proofs.Ytlmnmcfieagmbaa.MMake Go.Proofs.Ytlmnmcfieagmbaa.MPut Go.Proofs.Ytlmnmcfieagmbaa.Sep
set_option linter.unusedVariables false
set_option linter.unusedSimpArgs false
/-- What is owned, written out. -/
theorem me_form {w0 w : World} {S : List Nat} {L : List Res} {F : List Nat} {u : Value} {m : MemV} (h : Sep w0 S w (me F u m :: L)) : ∃ A1 q1 A2 q2 A3 q3, u = .agg #[.slice A1 m.secs.length q1, .slice A2 m.cache.length q2, .bool m.failed, .slice A3 m.bad.length q3] := by
  obtain ⟨s, c, b, F1, F2, F3, rfl, rfl, h1, h2, h3⟩ := (show MemO w F u m from h.get 0 rfl)
  obtain ⟨A1, q1, rfl, _⟩ := O_RK h1
  obtain ⟨A2, q2, rfl, _⟩ := O_RK h2
  obtain ⟨A3, q3, rfl, _⟩ := O_RK h3
  exact ⟨A1, q1, A2, q2, A3, q3, rfl⟩
section
variable {α : Type} {P : Program} {ops : Array Oper} {rest : List Oper} {o : Oper} {a : Act} {K : Act → World → Prop} {Q : Exit → Act → World → Prop} {E : Prop} {w0 W Wd : World} {S : List Nat} {L : List Res}
/-- append(v, y): y is owned by the second thing. -/
theorem app_one {d : Od α} {e : TypeId} {F G : List Nat} {v : Value} {xs : List α} {y : α} {p : World → Prop} (HS : Sep w0 S W (rw_ d e F v xs :: (G, p) :: L)) (hgd : o.guard = none) (s x : Operand) (t : TypeId) (z : Value) (bytes : Nat)
    (ho : o.op = .call { callee := .builtin .append, args := #[s, x], argTypes := #[t, t] })
    (ht : P.underlying t = some (.slice e)) (hinfo : (P.info? e).map (fun i => (i.zero, i.size, i.bytes)) = some (some z, d.sz, bytes)) (hz : z.cells.size = d.sz) (hs0 : 0 < d.sz) (hb0 : 0 < bytes)
    (ys : List Value) (hy : d.M W G y ys) (hs : a.eval s = v) {b : Nat} (hx : a.eval x = .slice (some ⟨b, 0, none⟩) 1 1) (hb : W.heap.size = b) {n : Nat} (hn : xs.length = n) (hl : (n + 1) * bytes ≤ 140737488355328)
    (h : ∀ A cap w1 F1, Sep w0 S w1 (rw_ d e F1 (.slice A (n + 1) cap) (xs ++ [y]) :: L) → wpList P ops Q rest (a.put o.dst (.slice A (n + 1) cap)) w1) :
    wpList P ops Q (o :: rest) a (W.alloc (.cells ys.toArray e)) := by
  subst hn hb
  refine append_O d hgd s x t e z bytes ho ht hinfo hz hs0 hb0 v xs F y G ys hs hx (HS.get 0 rfl) (HS.fnd 0 rfl) hy (HS.fnd (r := (G, p)) 1 rfl) (HS.apart (r := (G, p)) 1 0 rfl rfl (by decide)) hl ?_
  intro v1 w1 F1 ho1 hn1 hs1 hc1
  obtain ⟨A, c, rfl, hq⟩ := O_reads ho1
  rw [List.length_append] at *
  refine h A c w1 F1 (HS.two (r := rw_ d e F1 _ _) (hc1.mono (fun k hk => List.mem_append_left _ hk)) hn1 (fun k hk => ?_) (lies_row ho1))
  rcases hs1 k hk with q | q | q
  · exact .inl (List.mem_append_left _ q)
  · exact .inl (List.mem_append_right _ q)
  · exact .inr q
/-- .. y owns nothing. -/
theorem app_one0 {d : Od α} {e : TypeId} {F : List Nat} {v : Value} {xs : List α} {y : α} (HS : Sep w0 S W (rw_ d e F v xs :: L)) (hgd : o.guard = none) (s x : Operand) (t : TypeId) (z : Value) (bytes : Nat)
    (ho : o.op = .call { callee := .builtin .append, args := #[s, x], argTypes := #[t, t] })
    (ht : P.underlying t = some (.slice e)) (hinfo : (P.info? e).map (fun i => (i.zero, i.size, i.bytes)) = some (some z, d.sz, bytes)) (hz : z.cells.size = d.sz) (hs0 : 0 < d.sz) (hb0 : 0 < bytes)
    (ys : List Value) (hy : d.M W [] y ys) (hs : a.eval s = v) {b : Nat} (hx : a.eval x = .slice (some ⟨b, 0, none⟩) 1 1) (hb : W.heap.size = b) {n : Nat} (hn : xs.length = n) (hl : (n + 1) * bytes ≤ 140737488355328)
    (h : ∀ A cap w1 F1, Sep w0 S w1 (rw_ d e F1 (.slice A (n + 1) cap) (xs ++ [y]) :: L) → wpList P ops Q rest (a.put o.dst (.slice A (n + 1) cap)) w1) :
    wpList P ops Q (o :: rest) a (W.alloc (.cells ys.toArray e)) :=
  app_one (G := []) (p := fun _ => True) ((HS.new (r := ([], fun _ => True)) ⟨Below.refl _ _, Fresh.nil _, ⟨by simp, fun _ _ => trivial⟩⟩).perm (List.Perm.swap _ _ _)) hgd s x t z bytes ho ht hinfo hz hs0 hb0 ys hy hs hx hb hn hl h
/-- What was held before, beside what has come since. -/
theorem Sep.comp {w' : World} {M : List Res} (h : Sep w0 S W L) (k : Sep W [] w' M) : Sep w0 S w' (M ++ L) := by
  have kb := k.toBelow
  refine ⟨h.chg.trans (k.chg.mono (by simp)), ?_, fun q hq => ?_, fun r hr => ?_⟩
  · rw [fps_append, List.nodup_append]
    refine ⟨k.nd, h.nd, fun a ha b hb e => ?_⟩
    subst e
    obtain ⟨r, hr, hk⟩ := mem_fps.1 hb
    have h1 := (h.all r hr).lt a hk
    have h2 := (k.sub a ha).resolve_left (by simp)
    omega
  · rw [fps_append] at hq
    rcases List.mem_append.1 hq with hq | hq
    · have := (k.sub q hq).resolve_left (by simp); have := h.chg.size; right; omega
    · exact h.sub q hq
  · rcases List.mem_append.1 hr with hr | hr
    · exact k.all r hr
    · exact (h.all r hr).move (fun q hq => kb.block q ((h.all r hr).lt q hq))
/-- An element stored whole: what it owns comes with it. -/
theorem Sep.put {d : Od α} {e : TypeId} {F G : List Nat} {g n cap i : Nat} {xs : List α} {y : α} {p : World → Prop} {us : List Value} (HS : Sep w0 S W (rw_ d e F (.slice (some ⟨g, 0, none⟩) n cap) xs :: (G, p) :: L)) (hi : i < xs.length) (hy : d.M W G y us) :
    ∃ F', Sep w0 S (setRun W g (i * d.sz) us) (rw_ d e F' (.slice (some ⟨g, 0, none⟩) n cap) (xs.set i y) :: L) := by
  obtain ⟨F', h1, h2, h3⟩ := O_put (HS.get 0 rfl) (HS.fnd 0 rfl) hi hy (HS.fnd (r := (G, p)) 1 rfl) (HS.apart (r := (G, p)) 1 0 rfl rfl (by decide))
  have hg : g ∈ F := mem_own (show d.O e W F _ xs from HS.get 0 rfl) g rfl
  refine ⟨F', HS.two (r := rw_ d e F' _ _) (chg_setRun (.inl (List.mem_append_left _ hg)) us W _ (Chg.refl _ _)) h2 (fun k hk => .inl ?_) (lies_row h1)⟩
  rcases h3 k hk with q | q
  · exact List.mem_append_left _ q
  · exact List.mem_append_right _ q
/-- make: a row of zeros. -/
theorem make_sep (d : Od α) (HS : Sep w0 S W L) (hgd : o.guard = none) {N : Tmp} (hd : o.dst = some N) (t e : TypeId) (x y : Operand) (ho : o.op = .makeSlice t x y) (n : Nat) (hx : a.eval x = .int .i64 (n : Int)) (hy : a.eval y = .int .i64 (n : Int))
    (ht : P.underlying t = some (.slice e)) (z : Value) (bytes : Nat) (hinfo : (P.info? e).map (fun i => (i.zero, i.size, i.bytes)) = some (some z, d.sz, bytes)) (hz : z.cells.size = d.sz) (hs0 : 0 < d.sz) (hb0 : 0 < bytes)
    (z0 : α) (hzero : ∀ w', d.M w' [] z0 z.cells.toList) (hl : n * bytes ≤ 281474976710656)
    (h : ∀ w1 g, Sep w0 S w1 (rw_ d e [g] (.slice (some ⟨g, 0, none⟩) n n) (List.replicate n z0) :: L) → W.heap.size = g → wpList P ops Q rest (a.put o.dst (.slice (some ⟨g, 0, none⟩) n n)) w1) : wpList P ops Q (o :: rest) a W :=
  make_O d hgd hd t e x y ho n hx hy ht z bytes hinfo hz hs0 hb0 z0 hzero hl (fun w1 ho hb => h w1 _ (HS.new (new_row ho ⟨by simp, by simp⟩ hb)) rfl)
end
end Go.Proofs.Ytlmnmcfieagmbaa.SepStep
