/- A row that is owned, one element taken out: the element by itself, and the row with a gap. -/
import Derived.Test.YtggmifnblcjdfaaAKinds
namespace Go.Proofs.Ytggmifnblcjdfaa.AHole
open Go.RowKit Go.Proofs.YtggmifnblcjdfaaW.PrintWords Go.Proofs.Ytggmifnblcjdfaa.Fp Go.Proofs.Ytggmifnblcjdfaa.MInt Go.Proofs.Ytggmifnblcjdfaa.MKinds Go.Proofs.Ytggmifnblcjdfaa.MRead Go.Proofs.Ytggmifnblcjdfaa.MMake Go.Proofs.Ytggmifnblcjdfaa.MPut Go.Proofs.Ytggmifnblcjdfaa.Sep Go.Proofs.Ytggmifnblcjdfaa.AKinds
set_option linter.unusedVariables false
set_option linter.unusedSimpArgs false
/-- The row at block g but for its element i, whose cells are c. -/
def Hole {α : Type} (d : Od α) (e : TypeId) (g cap i : Nat) (xs : List α) (c : List Value) (R : List Nat) (w : World) : Prop :=
  ∃ (cs : List Value) (A B : List (List Nat)), w.ownsRow 0 e d.sz (.slice (some ⟨g, 0, none⟩) xs.length cap) xs.length cs ∧ A.length = i ∧ A.length + 1 + B.length = xs.length ∧ seg d.sz i cs = c ∧ R = g :: (A.flatten ++ B.flatten) ∧
    ∀ (j : Nat) (z : α) (H : List Nat), j ≠ i → xs[j]? = some z → (A ++ [] :: B)[j]? = some H → d.M w H z (seg d.sz j cs)
def ho {α : Type} (d : Od α) (e : TypeId) (g cap i : Nat) (xs : List α) (c : List Value) (R : List Nat) : Res := (R, fun w => Hole d e g cap i xs c R w)
section
variable {α : Type} {d : Od α} {e : TypeId} {g cap i : Nat} {xs : List α} {c : List Value} {R : List Nat} {w w' w0 : World} {S : List Nat} {L : List Res}
theorem other_in {A B : List (List Nat)} {i j : Nat} {H : List Nat} (hA : A.length = i) (hj : j ≠ i) (h : (A ++ [] :: B)[j]? = some H) : ∀ k ∈ H, k ∈ A.flatten ++ B.flatten := by
  intro k hk
  rcases Nat.lt_or_ge j A.length with hlt | hge
  · rw [List.getElem?_append_left hlt] at h
    exact List.mem_append_left _ (List.mem_flatten.2 ⟨H, List.mem_of_getElem? h, hk⟩)
  · rw [List.getElem?_append_right hge] at h
    obtain ⟨m, hm⟩ : ∃ m, j - A.length = m + 1 := ⟨j - A.length - 1, by omega⟩
    rw [hm, List.getElem?_cons_succ] at h
    exact List.mem_append_right _ (List.mem_flatten.2 ⟨H, List.mem_of_getElem? h, hk⟩)
theorem Hole.move (h : Hole d e g cap i xs c R w) (hm : ∀ k ∈ R, w'.heap[k]? = w.heap[k]?) : Hole d e g cap i xs c R w' := by
  obtain ⟨cs, A, B, hr, hA, hl, hc, hR, hM⟩ := h
  refine ⟨cs, A, B, own_move hr (fun k hk => hm k ?_), hA, hl, hc, hR, fun j z H hj hz hH => d.M_move (hM j z H hj hz hH) (fun k hk => hm k ?_)⟩
  · have hk : g = k := by simpa [Value.ownBlock] using hk
    rw [hR, hk]; simp
  · rw [hR]; exact List.mem_cons_of_mem _ (other_in hA hj hH k hk)
theorem Hole.lt (h : Hole d e g cap i xs c R w) : ∀ k ∈ R, k < w.heap.size := by
  obtain ⟨cs, A, B, hr, hA, hl, hc, hR, hM⟩ := h
  intro k hk
  rw [hR] at hk
  rcases List.mem_cons.1 hk with rfl | hk
  · exact (hr.lt k (by simp [Value.ownBlock])).2
  · have hin : ∀ (C : List (List Nat)), (∀ H ∈ C, ∃ j z, j ≠ i ∧ xs[j]? = some z ∧ (A ++ [] :: B)[j]? = some H) → k ∈ C.flatten → k < w.heap.size := by
      intro C hC hk
      obtain ⟨H, hH, hk⟩ := List.mem_flatten.1 hk
      obtain ⟨j, z, hj, hz, hH'⟩ := hC H hH
      exact d.M_lt (hM j z H hj hz hH') k hk
    rcases List.mem_append.1 hk with hk | hk
    · refine hin A (fun H hH => ?_) hk
      obtain ⟨j, hj, rfl⟩ := List.getElem_of_mem hH
      have hjx : j < xs.length := by omega
      exact ⟨j, xs[j], by omega, List.getElem?_eq_getElem hjx, by rw [List.getElem?_append_left hj, List.getElem?_eq_getElem hj]⟩
    · refine hin B (fun H hH => ?_) hk
      obtain ⟨j, hj, rfl⟩ := List.getElem_of_mem hH
      have hjx : A.length + 1 + j < xs.length := by omega
      refine ⟨A.length + 1 + j, xs[A.length + 1 + j], by omega, List.getElem?_eq_getElem hjx, ?_⟩
      rw [List.getElem?_append_right (by omega), show A.length + 1 + j - A.length = j + 1 by omega, List.getElem?_cons_succ, List.getElem?_eq_getElem hj]
theorem lies_hole (h : Hole d e g cap i xs c R w) : Lies w (ho d e g cap i xs c R) := ⟨h.lt, fun w' hm => h.move hm⟩
theorem Hole.len (h : Hole d e g cap i xs c R w) : c.length = d.sz := by
  obtain ⟨cs, A, B, hr, hA, hl, hc, hR, hM⟩ := h
  rw [← hc]; exact seg_length hr.1 (by omega)
theorem Hole.cell (h : Hole d e g cap i xs c R w) {t : Nat} {u : Value} (hu : c[t]? = some u) : w.cell? ⟨g, i * d.sz + t, none⟩ = some u := by
  have hlen := h.len
  obtain ⟨cs, A, B, hr, hA, hl, hc, hR, hM⟩ := h
  have hil : i < xs.length := by omega
  have ht : t < d.sz := by rw [← hlen]; exact (List.getElem?_eq_some_iff.1 hu).1
  rw [← hc, seg_get hr.1 hil ht] at hu
  rw [hr.cellAt _ ?_]
  · exact hu
  · have : (i + 1) * d.sz ≤ xs.length * d.sz := Nat.mul_le_mul_right _ hil
    rw [Nat.succ_mul] at this; omega
theorem Hole.frozen (h : Hole d e g cap i xs c R w) (t : Nat) : w.frozen? ⟨g, t, none⟩ = false := by
  obtain ⟨cs, A, B, hr, hA, hl, hc, hR, hM⟩ := h
  exact hr.frozenAt _
theorem Hole.blk (h : Hole d e g cap i xs c R w) : g ∈ R := by
  obtain ⟨cs, A, B, hr, hA, hl, hc, hR, hM⟩ := h
  rw [hR]; simp
/-- A cell of the gap stored. -/
theorem Hole.set (h : Hole d e g cap i xs c R w) (hn : R.Nodup) {t : Nat} (ht : t < d.sz) (u : Value) : Upd w (w.setCell ⟨g, i * d.sz + t, none⟩ u) R (ho d e g cap i xs (c.set t u) R) := by
  refine ⟨(Chg.refl _ _).set (.inl h.blk) _, hn, fun k hk => .inl hk, lies_hole ?_⟩
  obtain ⟨cs, A, B, hr, hA, hl, hc, hR, hM⟩ := h
  refine ⟨cs.set (i * d.sz + t) u, A, B, (hr.stored _ u).1, hA, hl, by rw [seg_set_self, hc], hR, fun j z H hj hz hH => ?_⟩
  rw [seg_set_other hj ht]
  have hg : ∀ k ∈ H, k ≠ g := fun k hk e => by
    subst e
    rw [hR] at hn
    exact (List.nodup_cons.1 hn).1 (other_in hA hj hH k hk)
  exact d.M_move (hM j z H hj hz hH) (fun k hk => Below.heap_setCell _ _ _ _ (hg k hk))
theorem Sep.hset {c' : List Value} (h : Sep w0 S w L) (q : Nat) (hq : L[q]? = some (ho d e g cap i xs c R)) {t : Nat} (ht : t < d.sz) (u : Value) (ec : c.set t u = c') : Sep w0 S (w.setCell ⟨g, i * d.sz + t, none⟩ u) (L.set q (ho d e g cap i xs c' R)) := by
  subst ec
  exact h.upd q hq (Hole.set (h.get q hq) (h.fnd q hq) ht u)
theorem Sep.row_upd {β : Type} {d : Od β} {e : TypeId} {F : List Nat} {v : Value} {xs ys : List β} (h : Sep w0 S w L) (q : Nat) (hq : L[q]? = some (rw_ d e F v xs)) (ho : d.O e w' F v ys) (hc : Chg F w w') : Sep w0 S w' (L.set q (rw_ d e F v ys)) := by
  have hn : F.Nodup := h.fnd q hq
  exact h.upd q hq ⟨hc, hn, fun k hk => .inl hk, lies_row ho⟩
theorem Sep.row_upd' {β : Type} {d : Od β} {e : TypeId} {F F' : List Nat} {v : Value} {xs ys : List β} (h : Sep w0 S w L) (q : Nat) (hq : L[q]? = some (rw_ d e F v xs)) (ho : d.O e w' F' v ys) (hn : F'.Nodup) (hs : ∀ k ∈ F', k ∈ F) (hc : Chg F w w') : Sep w0 S w' (L.set q (rw_ d e F' v ys)) :=
  h.upd q hq ⟨hc, hn, fun k hk => .inl (hs k hk), lies_row ho⟩
/-- One thing as others, in any order. -/
theorem Sep.splitP {r : Res} {M : List Res} (h : Sep w0 S w (r :: L)) (hf : (fps M).Perm r.1) (hM : ∀ m ∈ M, Lies w m) : Sep w0 S w (M ++ L) := by
  have hp : (fps (M ++ L)).Perm (fps (r :: L)) := by rw [fps_append, fps]; exact hf.append_right _
  refine ⟨h.chg, hp.nodup_iff.2 h.nd, fun k hk => h.sub k (hp.mem_iff.1 hk), fun q hq => ?_⟩
  rcases List.mem_append.1 hq with hq | hq
  · exact hM q hq
  · exact h.all q (List.mem_cons_of_mem _ hq)
theorem Sep.glueP {r : Res} {M : List Res} (h : Sep w0 S w (M ++ L)) (hf : (fps M).Perm r.1) (hl : Lies w r) : Sep w0 S w (r :: L) := by
  have hp : (fps (M ++ L)).Perm (fps (r :: L)) := by rw [fps_append, fps]; exact hf.append_right _
  refine ⟨h.chg, hp.nodup_iff.1 h.nd, fun k hk => h.sub k (hp.mem_iff.2 hk), fun q hq => ?_⟩
  rcases List.mem_cons.1 hq with rfl | hq
  · exact hl
  · exact h.all q (List.mem_append_right _ hq)
def el {α : Type} (d : Od α) (G : List Nat) (x : α) (c : List Value) : Res := (G, fun w => d.M w G x c)
/-- An element taken out. -/
theorem Sep.take_out {F : List Nat} {n : Nat} {x : α} (h : Sep w0 S w (rw_ d e F (.slice (some ⟨g, 0, none⟩) n cap) xs :: L)) (hi : xs[i]? = some x) :
    n = xs.length ∧ ∃ c G R, Sep w0 S w (el d G x c :: ho d e g cap i xs c R :: L) := by
  obtain ⟨cs, Fs, hr, hl, hF, hM⟩ := (show d.O e w F _ xs from h.get 0 rfl)
  have hil : i < xs.length := (List.getElem?_eq_some_iff.1 hi).1
  have hn : n = xs.length := by
    rcases hr.2 with ⟨h', _⟩ | ⟨_, _, _, h', _⟩ <;> simp at h'
    exact h'.2.1
  subst hn
  have hG := List.getElem?_eq_getElem (show i < Fs.length by omega)
  obtain ⟨G, hG'⟩ : ∃ G, G = Fs[i]'(by omega) := ⟨_, rfl⟩
  rw [← hG'] at hG
  obtain ⟨A, B, hAB, hA⟩ := split_at_ hG
  subst hAB
  refine ⟨rfl, seg d.sz i cs, G, g :: (A.flatten ++ B.flatten), ?_⟩
  have hE : d.M w G x (seg d.sz i cs) := hM i x G hi hG
  have hH : Hole d e g cap i xs (seg d.sz i cs) (g :: (A.flatten ++ B.flatten)) w := by
    refine ⟨cs, A, B, hr, hA, by simp at hl; omega, rfl, rfl, fun j z H hj hz hH => ?_⟩
    rw [get_mid (x := G) (by omega)] at hH
    exact hM j z H hz hH
  refine Sep.splitP (M := [el d G x (seg d.sz i cs), ho d e g cap i xs (seg d.sz i cs) (g :: (A.flatten ++ B.flatten))]) h ?_ ?_
  · have hf2 : (rw_ d e F (.slice (some ⟨g, 0, none⟩) xs.length cap) xs).1 = g :: (A.flatten ++ (G ++ B.flatten)) := by
      show F = _
      rw [hF]; simp [Value.ownBlock]
    rw [hf2]
    show List.Perm (G ++ (g :: (A.flatten ++ B.flatten) ++ [])) _
    rw [List.append_nil]
    refine List.perm_middle.trans (List.Perm.cons _ ?_)
    rw [← List.append_assoc, ← List.append_assoc]
    exact List.Perm.append_right _ List.perm_append_comm
  · intro r hr'
    simp only [List.mem_cons, List.not_mem_nil, or_false] at hr'
    rcases hr' with rfl | rfl
    · exact ⟨fun k hk => d.M_lt hE k hk, fun w' hm => d.M_move hE hm⟩
    · exact lies_hole hH
/-- An element put into the gap. -/
theorem Sep.put_in {G : List Nat} {y : α} {p : World → Prop} (h : Sep w0 S w ((G, p) :: ho d e g cap i xs c R :: L)) (hy : d.M w G y c) :
    ∃ F', Sep w0 S w (rw_ d e F' (.slice (some ⟨g, 0, none⟩) xs.length cap) (xs.set i y) :: L) := by
  obtain ⟨cs, A, B, hr, hA, hl, hc, hR, hM⟩ := (show Hole d e g cap i xs c R w from h.get 1 rfl)
  have hil : i < xs.length := by omega
  have hO : d.O e w (g :: (A ++ G :: B).flatten) (.slice (some ⟨g, 0, none⟩) xs.length cap) (xs.set i y) := by
    refine ⟨cs, A ++ G :: B, by rw [List.length_set]; exact hr, by simp; omega, by simp [Value.ownBlock], fun j z H hz hH => ?_⟩
    by_cases hj : j = i
    · subst hj
      rw [List.getElem?_set_self hil] at hz
      have hH' : (A ++ G :: B)[j]? = some G := by rw [List.getElem?_append_right (by omega)]; simp [hA]
      rw [hH'] at hH
      cases hz; cases hH
      rw [hc]; exact hy
    · rw [List.getElem?_set_ne (Ne.symm hj)] at hz
      rw [get_mid (x := []) (by omega)] at hH
      exact hM j z H hj hz hH
  refine ⟨_, Sep.glueP (M := [(G, p), ho d e g cap i xs c R]) h ?_ (lies_row hO)⟩
  show List.Perm (G ++ (R ++ [])) (g :: (A ++ G :: B).flatten)
  rw [List.append_nil, hR]
  refine List.perm_middle.trans (List.Perm.cons _ ?_)
  rw [List.flatten_append, List.flatten_cons, ← List.append_assoc, ← List.append_assoc]
  exact List.Perm.append_right _ List.perm_append_comm
/-- A disk taken out of a row of disks. -/
theorem Sep.take_mem {F : List Nat} {n : Nat} {xs : List MemV} {x : MemV} (h : Sep w0 S w (rw_ oMem e F (.slice (some ⟨g, 0, none⟩) n cap) xs :: L)) (hi : xs[i]? = some x) :
    n = xs.length ∧ ∃ A1 c1 A2 c2 A3 c3 F1 F2 F3 R, Sep w0 S w (rw_ oSec 44 F1 (.slice A1 x.secs.length c1) x.secs :: rw_ oWr 101 F2 (.slice A2 x.cache.length c2) x.cache :: rw_ oInt 3 F3 (.slice A3 x.bad.length c3) x.bad :: ho oMem e g cap i xs [.slice A1 x.secs.length c1, .slice A2 x.cache.length c2, .bool x.failed, .slice A3 x.bad.length c3] R :: L) := by
  obtain ⟨hn, c, G, R, hs⟩ := Sep.take_out h hi
  refine ⟨hn, ?_⟩
  have hM : MemO w G (.agg c.toArray) x := oMem_M.1 (show oMem.M w G x c from hs.get 0 rfl)
  have hs1 : Sep w0 S w (me G (.agg c.toArray) x :: ho oMem e g cap i xs c R :: L) := Sep.splitP (M := [me G (.agg c.toArray) x]) hs (by simp [fps, me, el]) (fun r hr => by
    simp only [List.mem_cons, List.not_mem_nil, or_false] at hr
    subst hr; exact lies_mem hM)
  obtain ⟨A1, c1, A2, c2, A3, c3, F1, F2, F3, hv, hs2⟩ := hs1.ofMem
  have hc : c = [.slice A1 x.secs.length c1, .slice A2 x.cache.length c2, .bool x.failed, .slice A3 x.bad.length c3] := congrArg Array.toList (Value.agg.inj hv)
  subst hc
  exact ⟨A1, c1, A2, c2, A3, c3, F1, F2, F3, R, hs2⟩
theorem Sep.put_mem {F1 F2 F3 : List Nat} {s u b : Value} {xs : List MemV} (y : MemV) (h : Sep w0 S w (rw_ oSec 44 F1 s y.secs :: rw_ oWr 101 F2 u y.cache :: rw_ oInt 3 F3 b y.bad :: ho oMem e g cap i xs [s, u, .bool y.failed, b] R :: L)) :
    ∃ F', Sep w0 S w (rw_ oMem e F' (.slice (some ⟨g, 0, none⟩) xs.length cap) (xs.set i y) :: L) := by
  have h1 := h.toMem
  have hM : MemO w _ _ y := h1.get 0 rfl
  exact Sep.put_in (p := (me (F1 ++ (F2 ++ F3)) (.agg #[s, u, .bool y.failed, b]) y).2) h1 (oMem_M.2 hM)
/-- An entry taken out of a row of entries. -/
theorem Sep.take_ent {F : List Nat} {n : Nat} {xs : List (Int × List Int)} {x : Int × List Int} (h : Sep w0 S w (rw_ oWr e F (.slice (some ⟨g, 0, none⟩) n cap) xs :: L)) (hi : xs[i]? = some x) :
    n = xs.length ∧ ∃ A1 c1 F1 R, Sep w0 S w (rw_ oInt 3 F1 (.slice A1 x.2.length c1) x.2 :: ho oWr e g cap i xs [.int .i64 x.1, .slice A1 x.2.length c1] R :: L) := by
  obtain ⟨hn, c, G, R, hs⟩ := Sep.take_out h hi
  refine ⟨hn, ?_⟩
  obtain ⟨F0, G0, c1, c2, hG, hc, ⟨h1, h2⟩, u, h3, hu⟩ := (show oWr.M w G x c from hs.get 0 rfl)
  subst hc hG h1 h2 h3
  obtain ⟨A1, q1, rfl, _⟩ := O_reads hu
  refine ⟨A1, q1, G0, R, ?_⟩
  exact Sep.splitP (M := [rw_ oInt 3 G0 (.slice A1 x.2.length q1) x.2]) hs (by simp [fps, rw_, el]) (fun r hr => by
    simp only [List.mem_cons, List.not_mem_nil, or_false] at hr
    subst hr; exact lies_row hu)
theorem Sep.put_ent {F1 : List Nat} {v : Value} {xs : List (Int × List Int)} (y : Int × List Int) (h : Sep w0 S w (rw_ oInt 3 F1 v y.2 :: ho oWr e g cap i xs [.int .i64 y.1, v] R :: L)) :
    ∃ F', Sep w0 S w (rw_ oWr e F' (.slice (some ⟨g, 0, none⟩) xs.length cap) (xs.set i y) :: L) :=
  Sep.put_in (p := (rw_ oInt 3 F1 v y.2).2) h ⟨[], F1, [.int .i64 y.1], [v], rfl, rfl, ⟨rfl, rfl⟩, v, rfl, h.get 0 rfl⟩
end
end Go.Proofs.Ytggmifnblcjdfaa.AHole
