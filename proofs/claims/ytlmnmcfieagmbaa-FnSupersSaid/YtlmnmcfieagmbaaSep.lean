/- What a function holds while it runs: its variables' blocks, rows that it owns, each apart from all others; S: what it may turn of what was there. -/
import Derived.Test.YtlmnmcfieagmbaaMPut
namespace Go.Proofs.Ytlmnmcfieagmbaa.Sep
open Go.RowKit Go.Proofs.YtlmnmcfieagmbaaW.PrintWords Go.Proofs.Ytlmnmcfieagmbaa.Fp Go.Proofs.Ytlmnmcfieagmbaa.MInt Go.Proofs.Ytlmnmcfieagmbaa.MKinds Go.Proofs.Ytlmnmcfieagmbaa.MRead Go.Proofs.Ytlmnmcfieagmbaa.MMake Go.Proofs.Ytlmnmcfieagmbaa.MPut
set_option linter.unusedVariables false
set_option linter.unusedSimpArgs false
/-- Blocks, and what is said of them. -/
abbrev Res := List Nat × (World → Prop)
structure Lies (w : World) (r : Res) : Prop where
  lt : ∀ k ∈ r.1, k < w.heap.size
  st : ∀ w' : World, (∀ k ∈ r.1, w'.heap[k]? = w.heap[k]?) → r.2 w'
theorem Lies.now {w : World} {r : Res} (h : Lies w r) : r.2 w := h.st w (fun _ _ => rfl)
theorem Lies.move {w w' : World} {r : Res} (h : Lies w r) (hm : ∀ k ∈ r.1, w'.heap[k]? = w.heap[k]?) : Lies w' r :=
  ⟨fun k hk => by
    have h1 := h.lt k hk
    have h2 := hm k hk
    rw [Array.getElem?_eq_getElem h1] at h2
    exact (Array.getElem?_eq_some_iff.1 h2).1, fun w'' h'' => h.st w'' (fun k hk => (h'' k hk).trans (hm k hk))⟩
theorem Lies.drewN {w : World} {r : Res} (h : Lies w r) (n : Nat) : Lies (w.drewN n) r := h.move (fun _ _ => rfl)
/-- A block that is known whole. -/
def bx (g : Nat) (t : TypeId) (cs : Array Value) : Res := ([g], fun w => w.heap[g]? = some (.cells cs t (0, 0)))
theorem lies_bx {w : World} {g : Nat} {t : TypeId} {cs : Array Value} (h : w.heap[g]? = some (.cells cs t (0, 0))) : Lies w (bx g t cs) :=
  ⟨fun k hk => by obtain rfl : k = g := by simpa [bx] using hk
                  exact blk_lt h, fun w' hm => (hm g (by simp [bx])).trans h⟩
/-- A row that is owned. -/
def rw_ {α : Type} (d : Od α) (e : TypeId) (F : List Nat) (v : Value) (xs : List α) : Res := (F, fun w => d.O e w F v xs)
theorem lies_row {α : Type} {d : Od α} {e : TypeId} {w : World} {F : List Nat} {v : Value} {xs : List α} (h : d.O e w F v xs) : Lies w (rw_ d e F v xs) := ⟨O_lt h, fun w' hm => O_move h hm⟩
def fps : List Res → List Nat
  | [] => []
  | r :: L => r.1 ++ fps L
theorem mem_fps {L : List Res} {k : Nat} : k ∈ fps L ↔ ∃ r ∈ L, k ∈ r.1 := by
  induction L with
  | nil => simp [fps]
  | cons r L ih => simp [fps, ih]
theorem fps_append (A B : List Res) : fps (A ++ B) = fps A ++ fps B := by
  induction A with
  | nil => rfl
  | cons r A ih => simp [fps, ih]
structure Sep (w0 : World) (S : List Nat) (w : World) (L : List Res) : Prop where
  chg : Chg S w0 w
  nd : (fps L).Nodup
  sub : ∀ k ∈ fps L, k ∈ S ∨ w0.heap.size ≤ k
  all : ∀ r ∈ L, Lies w r
section
variable {w0 w w' : World} {S : List Nat} {L : List Res}
theorem Sep.start (w : World) (S : List Nat) : Sep w S w [] := ⟨Chg.refl _ _, by simp [fps], by simp [fps], by simp⟩
theorem Sep.get (h : Sep w0 S w L) {r : Res} (i : Nat) (hi : L[i]? = some r) : r.2 w := (h.all r (List.mem_of_getElem? hi)).now
theorem Sep.lies (h : Sep w0 S w L) {r : Res} (i : Nat) (hi : L[i]? = some r) : Lies w r := h.all r (List.mem_of_getElem? hi)
theorem Sep.fnd (h : Sep w0 S w L) {r : Res} (i : Nat) (hi : L[i]? = some r) : r.1.Nodup := by
  obtain ⟨A, B, rfl, _⟩ := split_at_ hi
  have := h.nd
  rw [fps_append, fps, List.nodup_append, List.nodup_append] at this
  exact this.2.1.1
theorem Sep.fsub (h : Sep w0 S w L) {r : Res} (i : Nat) (hi : L[i]? = some r) : ∀ k ∈ r.1, k ∈ S ∨ w0.heap.size ≤ k := fun k hk => h.sub k (mem_fps.2 ⟨r, List.mem_of_getElem? hi, hk⟩)
/-- What a step does that turns the blocks of one thing alone, and leaves other things in its place. -/
theorem Sep.repl_ {A B M : List Res} {r : Res} (h : Sep w0 S w (A ++ r :: B)) (hc : Chg r.1 w w') (hn : (fps M).Nodup) (hs : ∀ k ∈ fps M, k ∈ r.1 ∨ w.heap.size ≤ k) (hM : ∀ m ∈ M, Lies w' m) : Sep w0 S w' (A ++ (M ++ B)) := by
  have hnd := h.nd
  have hall := h.all
  have hsub := h.sub
  rw [fps_append, fps, List.nodup_append, List.nodup_append] at hnd
  obtain ⟨nA, ⟨nr, nB, drB⟩, dA⟩ := hnd
  have hlt : ∀ q ∈ A ++ r :: B, ∀ k ∈ q.1, k < w.heap.size := fun q hq k hk => (hall q hq).lt k hk
  have ltA : ∀ k ∈ fps A, k < w.heap.size := fun k hk => by
    obtain ⟨q, hq, hk⟩ := mem_fps.1 hk
    exact hlt q (List.mem_append_left _ hq) k hk
  have ltB : ∀ k ∈ fps B, k < w.heap.size := fun k hk => by
    obtain ⟨q, hq, hk⟩ := mem_fps.1 hk
    exact hlt q (List.mem_append_right _ (List.mem_cons_of_mem _ hq)) k hk
  have hr1 : ∀ k ∈ r.1, k ∈ S ∨ w0.heap.size ≤ k := fun k hk => hsub k (by rw [fps_append, fps]; simp [hk])
  have dMA : ∀ a ∈ fps A, ∀ b ∈ fps M, a ≠ b := fun a ha b hb e => by
    subst e
    rcases hs a hb with h1 | h1
    · exact dA a ha a (by simp [h1]) rfl
    · have := ltA a ha; omega
  have dMB : ∀ a ∈ fps M, ∀ b ∈ fps B, a ≠ b := fun a ha b hb e => by
    subst e
    rcases hs a ha with h1 | h1
    · exact drB a h1 a hb rfl
    · have := ltB a hb; omega
  refine ⟨⟨hc.os.trans h.chg.os, hc.tape.trans h.chg.tape, hc.output.trans h.chg.output, Nat.le_trans h.chg.size hc.size, fun k hk hn' => ?_⟩, ?_, ?_, ?_⟩
  · refine (hc.block k (Nat.lt_of_lt_of_le hk h.chg.size) (fun hr => ?_)).trans (h.chg.block k hk hn')
    rcases hr1 k hr with h1 | h1
    · exact hn' h1
    · omega
  · rw [fps_append, fps_append, List.nodup_append, List.nodup_append]
    refine ⟨nA, ⟨hn, nB, dMB⟩, fun a ha b hb => ?_⟩
    rcases List.mem_append.1 hb with hb | hb
    · exact dMA a ha b hb
    · exact dA a ha b (List.mem_append_right _ hb)
  · intro k hk
    rw [fps_append, fps_append] at hk
    rcases List.mem_append.1 hk with hk | hk
    · exact hsub k (by rw [fps_append]; exact List.mem_append_left _ hk)
    · rcases List.mem_append.1 hk with hk | hk
      · rcases hs k hk with h1 | h1
        · exact hr1 k h1
        · have := h.chg.size; right; omega
      · exact hsub k (by rw [fps_append, fps]; simp [hk])
  · intro q hq
    rcases List.mem_append.1 hq with hq | hq
    · refine (hall q (List.mem_append_left _ hq)).move (fun k hk => hc.block k (hlt q (List.mem_append_left _ hq) k hk) (fun hr => ?_))
      exact dA k (mem_fps.2 ⟨q, hq, hk⟩) k (List.mem_append_left _ hr) rfl
    · rcases List.mem_append.1 hq with hq | hq
      · exact hM q hq
      · refine (hall q (by simp [hq])).move (fun k hk => hc.block k (hlt q (by simp [hq]) k hk) (fun hr => ?_))
        exact drB k hr k (mem_fps.2 ⟨q, hq, hk⟩) rfl
theorem cut_at {L : List Res} {i : Nat} {r : Res} (hi : L[i]? = some r) : L = L.take i ++ r :: L.drop (i + 1) := by
  obtain ⟨hl, hx⟩ := List.getElem?_eq_some_iff.1 hi
  rw [← hx, ← List.drop_eq_getElem_cons hl, List.take_append_drop]
theorem Sep.repl (h : Sep w0 S w L) {r : Res} (i : Nat) (hi : L[i]? = some r) {M : List Res} (hc : Chg r.1 w w') (hn : (fps M).Nodup) (hs : ∀ k ∈ fps M, k ∈ r.1 ∨ w.heap.size ≤ k) (hM : ∀ m ∈ M, Lies w' m) : Sep w0 S w' (L.take i ++ (M ++ L.drop (i + 1))) := by
  have h1 := h
  rw [cut_at hi] at h1
  exact h1.repl_ hc hn hs hM
theorem set_cut {L : List Res} {i : Nat} {r r' : Res} (hi : L[i]? = some r) : L.set i r' = L.take i ++ ([r'] ++ L.drop (i + 1)) := by
  obtain ⟨hl, hx⟩ := List.getElem?_eq_some_iff.1 hi
  rw [List.set_eq_take_append_cons_drop, if_pos hl]; rfl
theorem erase_cut (L : List Res) (i : Nat) : L.eraseIdx i = L.take i ++ ([] ++ L.drop (i + 1)) := by rw [List.eraseIdx_eq_take_drop_succ]; rfl
/-- What a call does to a thing that it owns; what a call makes. -/
structure Upd (w w' : World) (F : List Nat) (r : Res) : Prop where
  chg : Chg F w w'
  nd : r.1.Nodup
  sub : ∀ k ∈ r.1, k ∈ F ∨ w.heap.size ≤ k
  lies : Lies w' r
structure New (w w' : World) (r : Res) : Prop where
  below : Below w.heap.size w w'
  fresh : Fresh w r.1
  lies : Lies w' r
theorem Sep.upd (h : Sep w0 S w L) {r r' : Res} (i : Nat) (hi : L[i]? = some r) (hu : Upd w w' r.1 r') : Sep w0 S w' (L.set i r') := by
  rw [set_cut hi]
  exact h.repl i hi hu.chg (by simpa [fps] using hu.nd) (by simpa [fps] using hu.sub) (by simpa using hu.lies)
theorem Sep.drop (h : Sep w0 S w L) {r : Res} (i : Nat) (hi : L[i]? = some r) : Sep w0 S w (L.eraseIdx i) := by
  rw [erase_cut]
  exact h.repl i hi (Chg.refl _ _) (by simp [fps]) (by simp [fps]) (by simp)
theorem Sep.chg0 (h : Sep w0 S w L) (hc : Chg [] w w') : Sep w0 S w' L := by
  refine ⟨h.chg.trans (hc.mono (by simp)), h.nd, h.sub, fun r hr => (h.all r hr).move (fun k hk => hc.block k ((h.all r hr).lt k hk) (by simp))⟩
theorem Sep.below (h : Sep w0 S w L) (hb : Below w.heap.size w w') : Sep w0 S w' L := h.chg0 (Chg.of_below hb)
theorem Sep.drewN (h : Sep w0 S w L) (n : Nat) : Sep w0 S (w.drewN n) L := h.chg0 ((Chg.refl _ _).drewN n)
theorem Sep.drew (h : Sep w0 S w L) : Sep w0 S w.drew L := h.chg0 (Chg.refl _ _).drew
theorem Sep.dr (h : Sep w0 S w L) (hd : ∃ n, w' = w.drewN n) : Sep w0 S w' L := by obtain ⟨n, rfl⟩ := hd; exact h.drewN n
theorem Sep.new (h : Sep w0 S w L) {r : Res} (hn : New w w' r) : Sep w0 S w' (r :: L) := by
  have h1 := h.below hn.below
  refine ⟨h1.chg, ?_, fun k hk => ?_, fun q hq => ?_⟩
  · rw [fps, List.nodup_append]
    refine ⟨hn.fresh.1, h.nd, fun a ha b hb e => ?_⟩
    subst e
    obtain ⟨q, hq, hk⟩ := mem_fps.1 hb
    have := (h.all q hq).lt a hk
    have := hn.fresh.2 a ha
    omega
  · rw [fps] at hk
    rcases List.mem_append.1 hk with hk | hk
    · have := hn.fresh.2 k hk; have := h.chg.size; right; omega
    · exact h.sub k hk
  · rcases List.mem_cons.1 hq with rfl | hq
    · exact hn.lies
    · exact h1.all q hq
theorem Sep.alloc (h : Sep w0 S w L) {g : Nat} (hg : w.heap.size = g) (cs : Array Value) (t : TypeId) : Sep w0 S (w.alloc (.cells cs t (0, 0))) (bx g t cs :: L) := by
  subst hg
  exact h.new ⟨below_alloc (Below.refl _ _) _, ⟨by simp [bx], by simp [bx]⟩, lies_bx (blk_new w _)⟩
theorem Sep.setb (h : Sep w0 S w L) (i : Nat) {g : Nat} {t : TypeId} {cs cs' : Array Value} (hi : L[i]? = some (bx g t cs)) (j : Nat) (u : Value) (e : cs.setIfInBounds j u = cs') : Sep w0 S (w.setCell ⟨g, j, none⟩ u) (L.set i (bx g t cs')) := by
  subst e
  refine h.upd i hi ⟨(Chg.refl _ _).set (.inl (by simp [bx])) u, by simp [bx], fun k hk => .inl hk, lies_bx (blk_set (h.get i hi) j u)⟩
/-- Things of one thing: a struct's rows. -/
theorem Sep.part (h : Sep w0 S w L) {r : Res} (i : Nat) (hi : L[i]? = some r) {M : List Res} (hf : fps M = r.1) (hM : ∀ m ∈ M, Lies w m) : Sep w0 S w (L.take i ++ (M ++ L.drop (i + 1))) :=
  h.repl i hi (Chg.refl _ _) (by rw [hf]; exact h.fnd i hi) (fun k hk => .inl (by rw [← hf]; exact hk)) hM
/-- Any of the things, in any order. -/
theorem Sep.perm {L' : List Res} (h : Sep w0 S w L) (p : L'.Perm L) : Sep w0 S w L' := by
  have hp : (fps L').Perm (fps L) := by
    have : ∀ A : List Res, fps A = (A.map (·.1)).flatten := fun A => by
      induction A with
      | nil => rfl
      | cons r A ih => simp [fps, ih]
    rw [this, this]
    exact (p.map _).flatten
  exact ⟨h.chg, hp.nodup_iff.2 h.nd, fun k hk => h.sub k (hp.mem_iff.1 hk), fun r hr => h.all r (p.mem_iff.1 hr)⟩
theorem Sep.front (h : Sep w0 S w L) {r : Res} (i : Nat) (hi : L[i]? = some r) : Sep w0 S w (r :: L.eraseIdx i) := by
  refine h.perm ?_
  rw [erase_cut]
  conv => rhs; rw [cut_at hi]
  simpa using List.perm_middle.symm
/-- Two things as one. -/
theorem Sep.join {r1 r2 : Res} (h : Sep w0 S w (r1 :: r2 :: L)) {P : World → Prop} (hl : Lies w (r1.1 ++ r2.1, P)) : Sep w0 S w ((r1.1 ++ r2.1, P) :: L) := by
  refine ⟨h.chg, ?_, fun k hk => ?_, fun q hq => ?_⟩
  · have := h.nd; simpa [fps] using this
  · exact h.sub k (by simpa [fps] using hk)
  · rcases List.mem_cons.1 hq with rfl | hq
    · exact hl
    · exact h.all q (by simp [hq])
theorem Sep.own {r : Res} (h : Lies w r) (hn : r.1.Nodup) : Sep w r.1 w [r] := ⟨Chg.refl _ _, by simpa [fps] using hn, fun k hk => .inl (by simpa [fps] using hk), by simpa using h⟩
theorem Sep.toNew (h : Sep w0 [] w L) {r : Res} (i : Nat) (hi : L[i]? = some r) : New w0 w r :=
  ⟨⟨h.chg.os, h.chg.tape, h.chg.output, h.chg.size, fun k hk => h.chg.block k hk (by simp)⟩, ⟨h.fnd i hi, fun k hk => (h.fsub i hi k hk).resolve_left (by simp)⟩, h.lies i hi⟩
theorem Sep.toUpd (h : Sep w0 S w L) {r : Res} (i : Nat) (hi : L[i]? = some r) : Upd w0 w S r := ⟨h.chg, h.fnd i hi, h.fsub i hi, h.lies i hi⟩
theorem Sep.toBelow (h : Sep w0 [] w L) : Below w0.heap.size w0 w := ⟨h.chg.os, h.chg.tape, h.chg.output, h.chg.size, fun k hk => h.chg.block k hk (by simp)⟩
theorem Sep.old (h : Sep w0 [] w L) {a : Addr} {v : Value} (c : w0.cell? a = some v) : w.cell? a = some v := (h.toBelow.cell (World.block_lt_of_cell? w0 _ c)).trans c
theorem Sep.rk (h : Sep w0 [] w L) {α : Type} {k : Kd α} {v : Value} {xs : List α} (c : RK k w0 v xs) : RK k w v xs := RK_below c h.toBelow
theorem Upd.mono {F G : List Nat} {r : Res} (h : Upd w w' F r) (hs : ∀ k ∈ F, k ∈ G) : Upd w w' G r := ⟨h.chg.mono hs, h.nd, fun k hk => (h.sub k hk).imp_left (hs k), h.lies⟩
theorem fps_eq (A : List Res) : fps A = (A.map (·.1)).flatten := by
  induction A with
  | nil => rfl
  | cons r A ih => simp [fps, ih]
theorem Sep.apart (h : Sep w0 S w L) {r q : Res} (i j : Nat) (hi : L[i]? = some r) (hj : L[j]? = some q) (hij : i ≠ j) : ∀ k ∈ r.1, k ∉ q.1 := by
  have hnd := h.nd
  rw [fps_eq, List.Nodup, List.pairwise_flatten] at hnd
  have hp := List.pairwise_iff_getElem.1 hnd.2
  obtain ⟨li, ei⟩ := List.getElem?_eq_some_iff.1 hi
  obtain ⟨lj, ej⟩ := List.getElem?_eq_some_iff.1 hj
  intro k hk hk'
  rcases Nat.lt_or_gt_of_ne hij with hlt | hlt
  · have := hp i j (by simpa using li) (by simpa using lj) hlt
    simp only [List.getElem_map, ei, ej] at this
    exact this k hk k hk' rfl
  · have := hp j i (by simpa using lj) (by simpa using li) hlt
    simp only [List.getElem_map, ei, ej] at this
    exact this k hk' k hk rfl
theorem Sep.neq (h : Sep w0 S w L) {g g' : Nat} {t t' : TypeId} {cs cs' : Array Value} (i j : Nat) (hi : L[i]? = some (bx g t cs)) (hj : L[j]? = some (bx g' t' cs')) (hij : i ≠ j) : g ≠ g' := by
  have := h.apart i j hi hj hij g (by simp [bx])
  simpa [bx] using this
def pick (L : List Res) (i : Nat) : Res := L.getD i ([], fun _ => True)
/-- Some of the things, in an order that is named. -/
theorem Sep.sel (h : Sep w0 S w L) (is : List Nat) (hn : is.Nodup) (hm : ∀ i ∈ is, i < L.length) : Sep w0 S w (is.map (pick L)) := by
  have hg : ∀ i ∈ is, L[i]? = some (pick L i) := fun i hi => by rw [List.getElem?_eq_getElem (hm i hi)]; simp [pick, List.getD, hm i hi]
  refine ⟨h.chg, ?_, fun k hk => ?_, fun r hr => ?_⟩
  · rw [fps_eq, List.Nodup, List.pairwise_flatten]
    refine ⟨fun F hF => ?_, ?_⟩
    · simp only [List.map_map, List.mem_map, Function.comp] at hF
      obtain ⟨i, hi, rfl⟩ := hF
      exact h.fnd i (hg i hi)
    · rw [List.map_map, List.pairwise_map]
      refine List.Pairwise.imp_of_mem ?_ hn
      intro i j hi hj hij a ha b hb hab
      subst hab
      exact h.apart i j (hg i hi) (hg j hj) hij a ha hb
  · obtain ⟨r, hr, hk⟩ := mem_fps.1 hk
    obtain ⟨i, hi, rfl⟩ := List.mem_map.1 hr
    exact h.fsub i (hg i hi) k hk
  · obtain ⟨i, hi, rfl⟩ := List.mem_map.1 hr
    exact h.lies i (hg i hi)
/-- Two things that become one. -/
theorem Sep.two {r1 r2 r : Res} (h : Sep w0 S w (r1 :: r2 :: L)) (hc : Chg (r1.1 ++ r2.1) w w') (hn : r.1.Nodup) (hs : ∀ k ∈ r.1, k ∈ r1.1 ++ r2.1 ∨ w.heap.size ≤ k) (hl : Lies w' r) : Sep w0 S w' (r :: L) := by
  have l1 : Lies w r1 := h.lies 0 rfl
  have l2 : Lies w r2 := h.lies 1 rfl
  have h1 : Sep w0 S w ((r1.1 ++ r2.1, fun _ => True) :: L) := h.join (P := fun _ => True) ⟨fun k hk => (List.mem_append.1 hk).elim (l1.lt k) (l2.lt k), fun _ _ => trivial⟩
  exact h1.upd 0 rfl ⟨hc, hn, hs, hl⟩
/-- A nil row. -/
theorem Sep.nil {α : Type} (h : Sep w0 S w L) (d : Od α) (e : TypeId) : Sep w0 S w (rw_ d e [] (.slice none 0 0) [] :: L) := h.new ⟨Below.refl _ _, Fresh.nil _, lies_row (O_nil d e w)⟩
/-- An empty row that is laid. -/
theorem Sep.lit {α : Type} (h : Sep w0 S w L) {g : Nat} (hg : w.heap.size = g) (d : Od α) (e : TypeId) : Sep w0 S (w.alloc (.cells #[] e)) (rw_ d e [g] (.slice (some ⟨g, 0, none⟩) 0 0) [] :: L) := by
  subst hg
  exact h.new ⟨below_alloc (Below.refl _ _) _, ⟨by simp [rw_], by simp [rw_]⟩, lies_row (lit0 d e w)⟩
/-- Things that are told as one. -/
theorem Sep.glue {M : List Res} {r : Res} (h : Sep w0 S w (M ++ L)) (hf : fps M = r.1) (hl : Lies w r) : Sep w0 S w (r :: L) := by
  refine ⟨h.chg, ?_, fun k hk => ?_, fun q hq => ?_⟩
  · have := h.nd; rw [fps_append, hf] at this; exact this
  · exact h.sub k (by rw [fps_append, hf]; exact hk)
  · rcases List.mem_cons.1 hq with rfl | hq
    · exact hl
    · exact h.all q (List.mem_append_right _ hq)
end
/-- A disk that is owned. -/
def me (F : List Nat) (v : Value) (m : MemV) : Res := (F, fun w => MemO w F v m)
theorem lies_mem {w : World} {F : List Nat} {v : Value} {m : MemV} (h : MemO w F v m) : Lies w (me F v m) := ⟨MemO_lt h, fun w' hm => MemO_move h hm⟩
theorem new_mem {w w' : World} {F : List Nat} {v : Value} {m : MemV} (h : MemO w' F v m) (hF : Fresh w F) (hb : Below w.heap.size w w') : New w w' (me F v m) := ⟨hb, hF, lies_mem h⟩
theorem new_row {α : Type} {d : Od α} {e : TypeId} {w w' : World} {F : List Nat} {v : Value} {xs : List α} (h : d.O e w' F v xs) (hF : Fresh w F) (hb : Below w.heap.size w w') : New w w' (rw_ d e F v xs) := ⟨hb, hF, lies_row h⟩
section
variable {w0 w w' : World} {S : List Nat} {L : List Res}
theorem Sep.toMem {F1 F2 F3 : List Nat} {s c b : Value} {m : MemV} (h : Sep w0 S w (rw_ oSec 24 F1 s m.secs :: rw_ oWr 66 F2 c m.cache :: rw_ oInt 3 F3 b m.bad :: L)) : Sep w0 S w (me (F1 ++ (F2 ++ F3)) (.agg #[s, c, .bool m.failed, b]) m :: L) :=
  Sep.glue (M := [rw_ oSec 24 F1 s m.secs, rw_ oWr 66 F2 c m.cache, rw_ oInt 3 F3 b m.bad]) h (by simp [fps, rw_, me]) (lies_mem ⟨s, c, b, F1, F2, F3, rfl, rfl, h.get 0 rfl, h.get 1 rfl, h.get 2 rfl⟩)
theorem Sep.ofMem {F : List Nat} {u : Value} {m : MemV} (h : Sep w0 S w (me F u m :: L)) : ∃ A1 c1 A2 c2 A3 c3 F1 F2 F3, u = .agg #[.slice A1 m.secs.length c1, .slice A2 m.cache.length c2, .bool m.failed, .slice A3 m.bad.length c3] ∧
    Sep w0 S w (rw_ oSec 24 F1 (.slice A1 m.secs.length c1) m.secs :: rw_ oWr 66 F2 (.slice A2 m.cache.length c2) m.cache :: rw_ oInt 3 F3 (.slice A3 m.bad.length c3) m.bad :: L) := by
  obtain ⟨s, c, b, F1, F2, F3, rfl, rfl, h1, h2, h3⟩ := (show MemO w F u m from h.get 0 rfl)
  obtain ⟨A1, c1, rfl, _⟩ := O_reads h1
  obtain ⟨A2, c2, rfl, _⟩ := O_reads h2
  obtain ⟨A3, c3, rfl, _⟩ := O_reads h3
  refine ⟨A1, c1, A2, c2, A3, c3, F1, F2, F3, rfl, h.part 0 rfl (M := [rw_ oSec 24 F1 _ m.secs, rw_ oWr 66 F2 _ m.cache, rw_ oInt 3 F3 _ m.bad]) (by simp [fps, rw_, me]) ?_⟩
  intro r hr
  simp only [List.mem_cons, List.not_mem_nil, or_false] at hr
  rcases hr with rfl | rfl | rfl
  · exact lies_row h1
  · exact lies_row h2
  · exact lies_row h3
end
end Go.Proofs.Ytlmnmcfieagmbaa.Sep
