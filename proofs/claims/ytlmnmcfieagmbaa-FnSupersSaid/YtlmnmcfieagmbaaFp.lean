/- What a call owns, with the very blocks that it lies in: rows of numbers, of rows, of structs; each block once. Laws by which such rows are read, made, appended to, stored into and moved. -/
import Derived.Test.YtlmnmcfieagmbaaWWords
import Derived.Laws.BitsLemmas
import Derived.OrdersHeld
import Derived.Deep.RegionHeld3
namespace Go.Proofs.Ytlmnmcfieagmbaa.Fp
open Go.RowKit Go.Proofs.YtlmnmcfieagmbaaW.PrintWords
set_option linter.unusedVariables false
set_option linter.unusedSimpArgs false

/-! ### worlds: what has turned lies in S (or is new) -/
structure Chg (S : List Nat) (w w' : World) : Prop where
  os : w'.os = w.os
  tape : w'.tape = w.tape
  output : w'.output = w.output
  size : w.heap.size ≤ w'.heap.size
  block : ∀ k, k < w.heap.size → k ∉ S → w'.heap[k]? = w.heap[k]?
theorem Chg.refl (S : List Nat) (w : World) : Chg S w w := ⟨rfl, rfl, rfl, Nat.le_refl _, fun _ _ _ => rfl⟩
theorem Chg.trans {S : List Nat} {a b c : World} (h : Chg S a b) (k : Chg S b c) : Chg S a c :=
  ⟨k.os.trans h.os, k.tape.trans h.tape, k.output.trans h.output, Nat.le_trans h.size k.size, fun i hi hn => (k.block i (Nat.lt_of_lt_of_le hi h.size) hn).trans (h.block i hi hn)⟩
theorem Chg.mono {S T : List Nat} {a b : World} (h : Chg S a b) (hs : ∀ k ∈ S, k ∈ T) : Chg T a b := ⟨h.os, h.tape, h.output, h.size, fun i hi hn => h.block i hi (fun e => hn (hs i e))⟩
theorem Chg.of_below {S : List Nat} {a b : World} (h : Below a.heap.size a b) : Chg S a b := ⟨h.os, h.tape, h.output, h.size, fun i hi _ => h.block i hi⟩
theorem Chg.below {S : List Nat} {w a b : World} (h : Below w.heap.size w a) (k : Chg S a b) (hs : ∀ i ∈ S, w.heap.size ≤ i) : Below w.heap.size w b :=
  ⟨k.os.trans h.os, k.tape.trans h.tape, k.output.trans h.output, Nat.le_trans h.size k.size, fun i hi => (k.block i (Nat.lt_of_lt_of_le hi h.size) (fun e => by have := hs i e; omega)).trans (h.block i hi)⟩
theorem Chg.alloc {S : List Nat} {a b : World} (h : Chg S a b) (o : Obj) : Chg S a (b.alloc o) := h.trans (Chg.of_below (below_alloc (Below.refl _ _) o))
theorem Chg.drewN {S : List Nat} {a b : World} (h : Chg S a b) (n : Nat) : Chg S a (b.drewN n) := ⟨h.os, h.tape, h.output, h.size, h.block⟩
theorem Chg.drew {S : List Nat} {a b : World} (h : Chg S a b) : Chg S a b.drew := ⟨h.os, h.tape, h.output, h.size, h.block⟩
/-- A store into a block of S, or a new one. -/
theorem Chg.set {S : List Nat} {a b : World} (h : Chg S a b) {p : Addr} (hp : p.block ∈ S ∨ a.heap.size ≤ p.block) (u : Value) : Chg S a (b.setCell p u) :=
  ⟨h.os, h.tape, h.output, Nat.le_trans h.size (by simp [World.setCell]), fun i hi hn => by
    rw [Below.heap_setCell _ _ _ _ (by rcases hp with hp | hp; · intro e; exact hn (e ▸ hp)
                                       · omega)]
    exact h.block i hi hn⟩
theorem below_next {w w1 w2 : World} (h : Below w.heap.size w w1) (k : Below w1.heap.size w1 w2) : Below w.heap.size w w2 := h.trans (k.mono h.size)
/-- A block that is known, and is none of S, stays. -/
theorem Chg.blk {S : List Nat} {a b : World} (h : Chg S a b) {g : Nat} {o : Obj} (hb : a.heap[g]? = some o) (hg : g ∉ S) : b.heap[g]? = some o := (h.block g (blk_lt hb) hg).trans hb

/-! ### owned things -/
structure Od (α : Type) where
  sz : Nat
  kd : Kd α
  hsz : kd.sz = sz
  M : World → List Nat → α → List Value → Prop
  M_K : ∀ {w F x cs}, M w F x cs → kd.K w x cs
  M_move : ∀ {w w1 : World} {F x cs}, M w F x cs → (∀ k ∈ F, w1.heap[k]? = w.heap[k]?) → M w1 F x cs
  M_lt : ∀ {w : World} {F x cs}, M w F x cs → ∀ k ∈ F, k < w.heap.size

theorem Od.M_len {α : Type} (d : Od α) {w : World} {F : List Nat} {x : α} {cs : List Value} (h : d.M w F x cs) : cs.length = d.sz := by rw [← d.hsz]; exact d.kd.K_len (d.M_K h)
theorem Od.M_one {α : Type} (d : Od α) {w : World} {F : List Nat} {x : α} {cs : List Value} (h : d.M w F x cs) : ∀ u ∈ cs, u.oneCell' = true := d.kd.K_one (d.M_K h)

/-- The j-th element's cells. -/
def seg (sz j : Nat) (cs : List Value) : List Value := (cs.drop (j * sz)).take sz
theorem seg_length {sz j n : Nat} {cs : List Value} (h : cs.length = n * sz) (hj : j < n) : (seg sz j cs).length = sz := by
  have : (j + 1) * sz ≤ n * sz := Nat.mul_le_mul_right _ hj
  rw [Nat.succ_mul] at this
  rw [seg, List.length_take, List.length_drop]; omega
theorem seg_get {sz j n t : Nat} {cs : List Value} (h : cs.length = n * sz) (hj : j < n) (ht : t < sz) : (seg sz j cs)[t]? = cs[j * sz + t]? := by
  rw [seg, List.getElem?_take_of_lt ht, List.getElem?_drop]

/-- A row of the call's own: its elements, and the blocks: the row's, and the elements' in their order. -/
def Od.O {α : Type} (d : Od α) (e : TypeId) (w : World) (F : List Nat) (v : Value) (xs : List α) : Prop :=
  ∃ (cs : List Value) (Fs : List (List Nat)), w.ownsRow 0 e d.sz v xs.length cs ∧ Fs.length = xs.length ∧ F = v.ownBlock.toList ++ Fs.flatten ∧
    ∀ (j : Nat) (x : α) (G : List Nat), xs[j]? = some x → Fs[j]? = some G → d.M w G x (seg d.sz j cs)

section
variable {α : Type} {d : Od α} {e : TypeId} {w w1 : World} {F : List Nat} {v : Value} {xs : List α}
theorem mem_own (h : d.O e w F v xs) : ∀ k, v.ownBlock = some k → k ∈ F := by
  obtain ⟨cs, Fs, _, _, rfl, _⟩ := h
  intro k hk
  simp [hk]
theorem O_move (h : d.O e w F v xs) (hm : ∀ k ∈ F, w1.heap[k]? = w.heap[k]?) : d.O e w1 F v xs := by
  have ho := mem_own h
  obtain ⟨cs, Fs, hr, hl, rfl, hM⟩ := h
  refine ⟨cs, Fs, own_move hr (fun k hk => hm k (ho k hk)), hl, rfl, fun j x G hx hG => d.M_move (hM j x G hx hG) (fun k hk => hm k ?_)⟩
  exact List.mem_append_right _ (List.mem_flatten.2 ⟨G, List.mem_of_getElem? hG, hk⟩)
theorem O_lt (h : d.O e w F v xs) : ∀ k ∈ F, k < w.heap.size := by
  obtain ⟨cs, Fs, hr, hl, rfl, hM⟩ := h
  intro k hk
  rcases List.mem_append.1 hk with hk | hk
  · exact (hr.lt k (by simpa using hk)).2
  · obtain ⟨G, hG, hk⟩ := List.mem_flatten.1 hk
    obtain ⟨j, hj⟩ := List.getElem?_of_mem hG
    have hjl : j < xs.length := by have := (List.getElem?_eq_some_iff.1 hj).1; omega
    exact d.M_lt (hM j _ G (List.getElem?_eq_getElem hjl) hj) k hk
theorem O_chg {S : List Nat} (h : d.O e w F v xs) (hc : Chg S w w1) (hd : ∀ k ∈ F, k ∉ S) : d.O e w1 F v xs := O_move h (fun k hk => hc.block k (O_lt h k hk) (hd k hk))
theorem O_below (h : d.O e w F v xs) (hb : Below w.heap.size w w1) : d.O e w1 F v xs := O_move h (fun k hk => hb.block k (O_lt h k hk))
theorem O_nil (d : Od α) (e : TypeId) (w : World) : d.O e w [] (.slice none 0 0) [] := ⟨[], [], own_nil _ _ _ _, rfl, rfl, fun j x G hx => by simp at hx⟩
/-- .. read. -/
theorem O_reads (h : d.O e w F v xs) : ∃ A c, v = .slice A xs.length c ∧ xs.length ≤ c ∧ d.kd.C w A xs.length xs := by
  obtain ⟨cs, Fs, hr, hl, rfl, hM⟩ := h
  have hR : Reps (d.kd.K w) d.sz xs cs := ⟨hr.1, fun j x hx => by
    have hj : j < Fs.length := by rw [hl]; exact (List.getElem?_eq_some_iff.1 hx).1
    exact d.M_K (hM j x _ hx (List.getElem?_eq_getElem hj))⟩
  obtain ⟨A, c, rfl, hC⟩ := own_reads_row hr hR rfl
  refine ⟨A, c, rfl, own_le hr, ?_⟩
  show ReadsRow (d.kd.K w) d.kd.sz w A xs.length xs
  rw [d.hsz]; exact hC
/-- Where there is an element the row lies at the head of a block. -/
theorem O_form (h : d.O e w F v xs) (hn : 0 < xs.length) : ∃ g cap, v = .slice (some ⟨g, 0, none⟩) xs.length cap ∧ g ∈ F ∧ ∃ cur, w.heap[g]? = some (.cells cur e (0, 0)) := by
  have ho := mem_own h
  obtain ⟨cs, Fs, hr, hl, rfl, hM⟩ := h
  rcases hr.2 with ⟨_, h0⟩ | ⟨g, cap, cur, rfl, _, hg, _⟩
  · omega
  · exact ⟨g, cap, rfl, ho g rfl, cur, hg⟩
/-- An element: its cells in memory, what it owns. -/
theorem O_elem {g n cap : Nat} (h : d.O e w F (.slice (some ⟨g, 0, none⟩) n cap) xs) {i : Nat} {x : α} (hi : xs[i]? = some x) :
    ∃ (c : List Value) (G : List Nat), d.M w G x c ∧ (∀ k ∈ G, k ∈ F) ∧ (∀ (t : Nat) (u : Value), c[t]? = some u → w.cell? ⟨g, i * d.sz + t, none⟩ = some u) ∧ (∀ t, w.frozen? ⟨g, i * d.sz + t, none⟩ = false) ∧ (F.Nodup → g ∉ G) := by
  obtain ⟨cs, Fs, hr, hl, rfl, hM⟩ := h
  have hil : i < xs.length := (List.getElem?_eq_some_iff.1 hi).1
  have hn : n = xs.length := by
    rcases hr.2 with ⟨h', _⟩ | ⟨_, _, _, h', _⟩ <;> simp at h'
    exact h'.2.1
  subst hn
  have hG := List.getElem?_eq_getElem (show i < Fs.length by omega)
  refine ⟨seg d.sz i cs, _, hM i x _ hi hG, fun k hk => List.mem_append_right _ (List.mem_flatten.2 ⟨_, List.getElem_mem _, hk⟩), fun t u hu => ?_, fun t => hr.frozenAt _, fun hnd hg => ?_⟩
  · have ht : t < d.sz := by
      have h1 := (List.getElem?_eq_some_iff.1 hu).1
      rw [seg_length hr.1 hil] at h1; exact h1
    rw [seg_get hr.1 hil ht] at hu
    rw [hr.cellAt _ ?_]
    · exact hu
    · have : (i + 1) * d.sz ≤ xs.length * d.sz := Nat.mul_le_mul_right _ hil
      rw [Nat.succ_mul] at this; omega
  · have h1 : g ∈ Fs.flatten := List.mem_flatten.2 ⟨_, List.getElem_mem _, hg⟩
    simp only [Value.ownBlock, Option.toList_some, List.cons_append, List.nil_append, List.nodup_cons] at hnd
    exact hnd.1 h1
theorem split_at_ {β : Type} {L : List β} {i : Nat} {x : β} (h : L[i]? = some x) : ∃ A B, L = A ++ x :: B ∧ A.length = i := by
  obtain ⟨hl, hx⟩ := List.getElem?_eq_some_iff.1 h
  refine ⟨L.take i, L.drop (i + 1), ?_, by simp; omega⟩
  rw [← hx, ← List.drop_eq_getElem_cons hl, List.take_append_drop]
theorem get_mid {β : Type} {A B : List β} {x : β} {j : Nat} (hj : j ≠ A.length) (y : β) : (A ++ y :: B)[j]? = (A ++ x :: B)[j]? := by
  rcases Nat.lt_or_ge j A.length with h | h
  · rw [List.getElem?_append_left h, List.getElem?_append_left h]
  · rw [List.getElem?_append_right h, List.getElem?_append_right h]
    obtain ⟨m, hm⟩ : ∃ m, j - A.length = m + 1 := ⟨j - A.length - 1, by omega⟩
    rw [hm]; simp
theorem seg_set_other {sz i j t : Nat} {cs : List Value} {u : Value} (hij : j ≠ i) (ht : t < sz) : seg sz j (cs.set (i * sz + t) u) = seg sz j cs := by
  unfold seg
  apply List.ext_getElem?
  intro m
  rcases Nat.lt_or_ge m sz with hm | hm
  · rw [List.getElem?_take_of_lt hm, List.getElem?_take_of_lt hm, List.getElem?_drop, List.getElem?_drop, List.getElem?_set_ne]
    intro e
    rcases Nat.lt_or_gt_of_ne hij with h | h
    · have : (j + 1) * sz ≤ i * sz := Nat.mul_le_mul_right _ h
      rw [Nat.succ_mul] at this; omega
    · have : (i + 1) * sz ≤ j * sz := Nat.mul_le_mul_right _ h
      rw [Nat.succ_mul] at this; omega
  · rw [List.getElem?_eq_none (by rw [List.length_take]; omega), List.getElem?_eq_none (by rw [List.length_take]; omega)]
theorem seg_set_self {sz i t : Nat} {cs : List Value} {u : Value} : seg sz i (cs.set (i * sz + t) u) = (seg sz i cs).set t u := by
  unfold seg
  apply List.ext_getElem?
  intro m
  rcases Nat.lt_or_ge m sz with hm | hm
  · rw [List.getElem?_take_of_lt hm, List.getElem?_drop, List.getElem?_set, List.getElem?_set, List.getElem?_take_of_lt hm, List.getElem?_drop]
    by_cases e : t = m
    · subst e
      simp only [if_true, List.length_take, List.length_drop]
      by_cases h2 : i * sz + t < cs.length
      · rw [if_pos h2, if_pos (by omega)]
      · rw [if_neg h2, if_neg (by omega)]
    · rw [if_neg (by omega), if_neg e]
  · rw [List.getElem?_eq_none (by rw [List.length_take]; omega), List.getElem?_eq_none (by rw [List.length_set, List.length_take]; omega)]
/-- Element i in the midst of all else: what it owns may turn; and its cells may be stored into. -/
theorem O_focus {g n cap : Nat} (h : d.O e w F (.slice (some ⟨g, 0, none⟩) n cap) xs) (hnd : F.Nodup) {i : Nat} {x : α} (hi : xs[i]? = some x) :
    ∃ (c : List Value) (G : List Nat), d.M w G x c ∧ c.length = d.sz ∧ (∀ k ∈ G, k ∈ F) ∧ G.Nodup ∧ g ∉ G ∧ g ∈ F ∧
      (∀ (t : Nat) (u : Value), c[t]? = some u → w.cell? ⟨g, i * d.sz + t, none⟩ = some u) ∧ (∀ t, w.frozen? ⟨g, i * d.sz + t, none⟩ = false) ∧
      (∀ (w1 : World) (S : List Nat) (y : α), Chg S w w1 → (∀ k ∈ S, k ∈ F → k ∈ G) → d.M w1 G y c → d.O e w1 F (.slice (some ⟨g, 0, none⟩) n cap) (xs.set i y)) ∧
      (∀ (G' : List Nat) (y : α) (t : Nat) (u : Value), t < d.sz → d.M (w.setCell ⟨g, i * d.sz + t, none⟩ u) G' y (c.set t u) → G'.Nodup → (∀ k ∈ G', k ∈ F → k ∈ G) →
        ∃ F', d.O e (w.setCell ⟨g, i * d.sz + t, none⟩ u) F' (.slice (some ⟨g, 0, none⟩) n cap) (xs.set i y) ∧ F'.Nodup ∧ ∀ k ∈ F', k ∈ F ∨ k ∈ G') := by
  obtain ⟨cs, Fs, hr, hl, rfl, hM⟩ := h
  have hil : i < xs.length := (List.getElem?_eq_some_iff.1 hi).1
  have hn : n = xs.length := by
    rcases hr.2 with ⟨h', _⟩ | ⟨_, _, _, h', _⟩ <;> simp at h'
    exact h'.2.1
  subst hn
  have hG := List.getElem?_eq_getElem (show i < Fs.length by omega)
  obtain ⟨G, hG'⟩ : ∃ G, G = Fs[i]'(by omega) := ⟨_, rfl⟩
  rw [← hG'] at hG
  obtain ⟨A, B, hAB, hA⟩ := split_at_ hG
  subst hAB
  simp only [Value.ownBlock, Option.toList_some, List.flatten_append, List.flatten_cons] at hnd
  rw [List.nodup_append] at hnd
  obtain ⟨_, hnd1, hg0⟩ := hnd
  have hg1 : ∀ k ∈ A.flatten ++ (G ++ B.flatten), g ≠ k := fun k hk => hg0 g (by simp) k hk
  rw [List.nodup_append] at hnd1
  obtain ⟨nA, nGB, dA⟩ := hnd1
  rw [List.nodup_append] at nGB
  obtain ⟨nG, nB, dG⟩ := nGB
  have hgG : g ∉ G := fun hk => hg1 g (List.mem_append_right _ (List.mem_append_left _ hk)) rfl
  have hFm : ∀ k, k ∈ ((Value.slice (some ⟨g, 0, none⟩) xs.length cap).ownBlock.toList ++ (A ++ G :: B).flatten) ↔ (k = g ∨ k ∈ A.flatten ∨ k ∈ G ∨ k ∈ B.flatten) := by
    intro k; simp [Value.ownBlock]
  have hother : ∀ j, j ≠ i → ∀ (z : α) (H : List Nat), xs[j]? = some z → (A ++ G :: B)[j]? = some H → ∀ k ∈ H, k ≠ g ∧ k ∉ G ∧ (k ∈ A.flatten ∨ k ∈ B.flatten) := by
    intro j hj z H hz hH k hk
    have hin : k ∈ A.flatten ∨ k ∈ B.flatten := by
      rcases Nat.lt_or_ge j A.length with hlt | hge
      · rw [List.getElem?_append_left hlt] at hH
        exact .inl (List.mem_flatten.2 ⟨H, List.mem_of_getElem? hH, hk⟩)
      · rw [List.getElem?_append_right hge] at hH
        obtain ⟨m, hm⟩ : ∃ m, j - A.length = m + 1 := ⟨j - A.length - 1, by omega⟩
        rw [hm, List.getElem?_cons_succ] at hH
        exact .inr (List.mem_flatten.2 ⟨H, List.mem_of_getElem? hH, hk⟩)
    refine ⟨fun e => ?_, fun hkG => ?_, hin⟩
    · subst e
      rcases hin with hin | hin
      · exact hg1 k (List.mem_append_left _ hin) rfl
      · exact hg1 k (List.mem_append_right _ (List.mem_append_right _ hin)) rfl
    · rcases hin with hin | hin
      · exact dA k hin k (List.mem_append_left _ hkG) rfl
      · exact dG k hkG k hin rfl
  refine ⟨seg d.sz i cs, G, hM i x G hi hG, seg_length hr.1 hil, fun k hk => (hFm k).2 (.inr (.inr (.inl hk))), nG, hgG, (hFm g).2 (.inl rfl), ?_, fun t => hr.frozenAt _, ?_, ?_⟩
  · intro t u hu
    have ht : t < d.sz := by
      have h1 := (List.getElem?_eq_some_iff.1 hu).1
      rw [seg_length hr.1 hil] at h1; exact h1
    rw [seg_get hr.1 hil ht] at hu
    rw [hr.cellAt _ ?_]
    · exact hu
    · have : (i + 1) * d.sz ≤ xs.length * d.sz := Nat.mul_le_mul_right _ hil
      rw [Nat.succ_mul] at this; omega
  · intro w1 S y hc hS hy
    have hk : ∀ k, k ∈ S → k = g ∨ k ∈ A.flatten ∨ k ∈ B.flatten → False := by
      intro k hkS hkk
      have hkF := (hFm k).2 (by rcases hkk with h | h | h; exact .inl h; exact .inr (.inl h); exact .inr (.inr (.inr h)))
      have hkG := hS k hkS hkF
      rcases hkk with rfl | h | h
      · exact hgG hkG
      · exact dA k h k (List.mem_append_left _ hkG) rfl
      · exact dG k hkG k h rfl
    refine ⟨cs, A ++ G :: B, ?_, by simpa using hl, rfl, fun j z H hz hH => ?_⟩
    · rw [List.length_set]
      exact own_move hr (fun k hk' => hc.block k (hr.lt k hk').2 (fun hkS => hk k hkS (.inl (by simpa [Value.ownBlock] using hk'.symm))))
    · by_cases hj : j = i
      · subst hj
        rw [List.getElem?_set_self hil] at hz
        rw [hG] at hH
        cases hz; cases hH; exact hy
      · rw [List.getElem?_set_ne (Ne.symm hj)] at hz
        have ho := hother j hj z H hz hH
        refine d.M_move (hM j z H hz hH) (fun k hk' => hc.block k (d.M_lt (hM j z H hz hH) k hk') (fun hkS => hk k hkS (.inr (ho k hk').2.2)))
  · intro G' y t u ht hy nG' hG'F
    have hF' : ∀ k, k ∈ ((Value.slice (some ⟨g, 0, none⟩) xs.length cap).ownBlock.toList ++ (A ++ G' :: B).flatten) ↔ (k = g ∨ k ∈ A.flatten ∨ k ∈ G' ∨ k ∈ B.flatten) := by
      intro k; simp [Value.ownBlock]
    have hgG' : g ∉ G' := fun hk => hgG (hG'F g hk ((hFm g).2 (.inl rfl)))
    refine ⟨_, ⟨cs.set (i * d.sz + t) u, A ++ G' :: B, ?_, by simpa using hl, rfl, fun j z H hz hH => ?_⟩, ?_, fun k hk => ?_⟩
    · rw [List.length_set]
      exact (hr.stored _ u).1
    · by_cases hj : j = i
      · subst hj
        rw [List.getElem?_set_self hil] at hz
        have hH' : (A ++ G' :: B)[j]? = some G' := by rw [List.getElem?_append_right (by omega)]; simp [hA]
        rw [hH'] at hH
        cases hz; cases hH
        rw [seg_set_self]; exact hy
      · rw [List.getElem?_set_ne (Ne.symm hj)] at hz
        rw [get_mid (x := G) (by omega)] at hH
        rw [seg_set_other hj ht]
        have ho := hother j hj z H hz hH
        exact d.M_move (hM j z H hz hH) (fun k hk' => Below.heap_setCell _ _ _ _ (ho k hk').1)
    · simp only [Value.ownBlock, Option.toList_some, List.flatten_append, List.flatten_cons]
      have q : ∀ k ∈ G', k ∉ A.flatten ∧ k ∉ B.flatten := fun k hk => ⟨fun h => dA k h k (List.mem_append_left _ (hG'F k hk ((hFm k).2 (.inr (.inl h))))) rfl, fun h => dG k (hG'F k hk ((hFm k).2 (.inr (.inr (.inr h))))) k h rfl⟩
      rw [List.nodup_append, List.nodup_append, List.nodup_append]
      refine ⟨by simp, ⟨nA, ⟨nG', nB, fun a ha b hb e => (q a ha).2 (e ▸ hb)⟩, fun a ha b hb e => ?_⟩, fun a ha b hb e => ?_⟩
      · subst e
        rcases List.mem_append.1 hb with hb | hb
        · exact (q a hb).1 ha
        · exact dA a ha a (List.mem_append_right _ hb) rfl
      · simp only [List.mem_singleton] at ha
        subst ha; subst e
        rcases List.mem_append.1 hb with hb | hb
        · exact hg1 a (List.mem_append_left _ hb) rfl
        · rcases List.mem_append.1 hb with hb | hb
          · exact hgG' hb
          · exact hg1 a (List.mem_append_right _ (List.mem_append_right _ hb)) rfl
    · rcases (hF' k).1 hk with h | h | h | h
      · exact .inl ((hFm k).2 (.inl h))
      · exact .inl ((hFm k).2 (.inr (.inl h)))
      · exact .inr h
      · exact .inl ((hFm k).2 (.inr (.inr (.inr h))))
end

/-! ### kinds -/
def Od.int (k : IntKind) : Od Int where
  sz := 1
  kd := Kd.int k
  hsz := rfl
  M := fun _ F x cs => F = [] ∧ cs = [.int k x]
  M_K := fun h => h.2
  M_move := fun h _ => h
  M_lt := fun h k hk => by rw [h.1] at hk; cases hk
def Od.bool : Od Bool where
  sz := 1
  kd := Kd.bool
  hsz := rfl
  M := fun _ F x cs => F = [] ∧ cs = [.bool x]
  M_K := fun h => h.2
  M_move := fun h _ => h
  M_lt := fun h k hk => by rw [h.1] at hk; cases hk
def Od.slice {α : Type} (e : TypeId) (d : Od α) : Od (List α) where
  sz := 1
  kd := Kd.slice e d.kd
  hsz := rfl
  M := fun w F xs cs => ∃ v, cs = [v] ∧ d.O e w F v xs
  M_K := by
    rintro w F xs cs ⟨v, rfl, h⟩
    obtain ⟨A, c, rfl, hl, hC⟩ := O_reads h
    exact ⟨A, c, rfl, hl, hC⟩
  M_move := by
    rintro w w1 F xs cs ⟨v, rfl, h⟩ hm
    exact ⟨v, rfl, O_move h hm⟩
  M_lt := by
    rintro w F xs cs ⟨v, rfl, h⟩
    exact O_lt h
def Od.pair {α β : Type} (a : Od α) (b : Od β) : Od (α × β) where
  sz := a.sz + b.sz
  kd := Kd.pair a.kd b.kd
  hsz := by show a.kd.sz + b.kd.sz = _; rw [a.hsz, b.hsz]
  M := fun w F x cs => ∃ F1 F2 c1 c2, F = F1 ++ F2 ∧ cs = c1 ++ c2 ∧ a.M w F1 x.1 c1 ∧ b.M w F2 x.2 c2
  M_K := by
    rintro w F x cs ⟨F1, F2, c1, c2, rfl, rfl, h1, h2⟩
    exact ⟨c1, c2, rfl, a.M_K h1, b.M_K h2⟩
  M_move := by
    rintro w w1 F x cs ⟨F1, F2, c1, c2, rfl, rfl, h1, h2⟩ hm
    exact ⟨F1, F2, c1, c2, rfl, rfl, a.M_move h1 (fun k hk => hm k (List.mem_append_left _ hk)), b.M_move h2 (fun k hk => hm k (List.mem_append_right _ hk))⟩
  M_lt := by
    rintro w F x cs ⟨F1, F2, c1, c2, rfl, rfl, h1, h2⟩ k hk
    rcases List.mem_append.1 hk with hk | hk
    · exact a.M_lt h1 k hk
    · exact b.M_lt h2 k hk
def Od.iso {α β : Type} (d : Od α) (f : β → α) : Od β where
  sz := d.sz
  kd := Kd.iso d.kd f
  hsz := d.hsz
  M := fun w F x cs => d.M w F (f x) cs
  M_K := fun h => d.M_K h
  M_move := fun h hm => d.M_move h hm
  M_lt := fun h => d.M_lt h

/-! ### read -/
/-- A slice that is read. -/
def RK {α : Type} (k : Kd α) (w : World) (v : Value) (xs : List α) : Prop := ∃ A c, v = .slice A xs.length c ∧ xs.length ≤ c ∧ k.C w A xs.length xs
section
variable {α : Type} {d : Od α} {k : Kd α} {e : TypeId} {w w1 : World} {F : List Nat} {v : Value} {xs : List α}
theorem RK_below (h : RK k w v xs) (hb : Below w.heap.size w w1) : RK k w1 v xs := by
  obtain ⟨A, c, rfl, hl, hC⟩ := h
  exact ⟨A, c, rfl, hl, Kd.C_below hC hb⟩
theorem O_RK (h : d.O e w F v xs) : RK d.kd w v xs := O_reads h
theorem RK_nil (k : Kd α) (w : World) : RK k w (.slice none 0 0) [] := ⟨none, 0, rfl, Nat.le_refl _, rfl, by simp, by simp⟩
theorem RK_len (h : RK k w v xs) : xs.length ≤ 9223372036854775807 := by
  obtain ⟨A, c, rfl, hl, hC⟩ := h
  exact hC.2.1
theorem RK_K (h : RK k w v xs) (e : Nat) : (Kd.slice e k).K w xs [v] := by
  obtain ⟨A, c, rfl, hl, hC⟩ := h
  exact ⟨A, c, rfl, hl, hC⟩
theorem RK_of_K {e : Nat} {cs : List Value} (h : (Kd.slice e k).K w xs cs) : ∃ v, cs = [v] ∧ RK k w v xs := by
  obtain ⟨A, c, rfl, hl, hC⟩ := h
  exact ⟨_, rfl, A, c, rfl, hl, hC⟩
/-- Element i of a slice that is read: its cells. -/
theorem RK_get (h : RK k w v xs) {i : Nat} {x : α} (hi : xs[i]? = some x) : ∃ ad c cap, v = .slice (some ad) xs.length cap ∧ k.K w x c ∧ ∀ (j : Nat) (u : Value), c[j]? = some u → w.cell? (ad.add (i * k.sz + j)) = some u := by
  obtain ⟨A, cap, rfl, hl, hC⟩ := h
  have hil : i < xs.length := (List.getElem?_eq_some_iff.1 hi).1
  obtain ⟨ad, rfl, hc⟩ := hC.2.2 (by omega)
  obtain ⟨c, _, hK, hcell⟩ := hc i x hi
  exact ⟨ad, c, cap, rfl, hK, hcell⟩
/-- What is new since w, each block once. -/
def Fresh (w : World) (F : List Nat) : Prop := F.Nodup ∧ ∀ k ∈ F, w.heap.size ≤ k
theorem Fresh.nil (w : World) : Fresh w [] := ⟨List.nodup_nil, by simp⟩
theorem Fresh.elder {F : List Nat} (h : Fresh w1 F) (hs : w.heap.size ≤ w1.heap.size) : Fresh w F := ⟨h.1, fun k hk => Nat.le_trans hs (h.2 k hk)⟩
/-- What was made later is apart from what was there. -/
theorem Fresh.apart {F G : List Nat} (h : Fresh w1 G) (hF : ∀ k ∈ F, k < w1.heap.size) : ∀ k ∈ G, k ∉ F := fun k hk hk' => by have := h.2 k hk; have := hF k hk'; omega
theorem Fresh.append {F G : List Nat} (hF : Fresh w F) (hG : Fresh w G) (hd : ∀ k ∈ F, k ∉ G) : Fresh w (F ++ G) :=
  ⟨List.nodup_append.2 ⟨hF.1, hG.1, fun a ha b hb e => hd a ha (e ▸ hb)⟩, fun k hk => by
    rcases List.mem_append.1 hk with hk | hk
    · exact hF.2 k hk
    · exact hG.2 k hk⟩
/-- A row of numbers, out of a row that the print tells. -/
theorem O_int (k : IntKind) {xs : List Int} {n : Nat} {v : Value} (h : w.ownsRow 0 e 1 v n (nums k xs)) (hn : n = xs.length) : (Od.int k).O e w v.ownBlock.toList v xs := by
  subst hn
  refine ⟨nums k xs, List.replicate xs.length [], h, by simp, by simp, fun j x G hx hG => ?_⟩
  have hG' : G = [] := by
    have := List.mem_of_getElem? hG
    exact (List.mem_replicate.1 this).2
  subst hG'
  refine ⟨rfl, ?_⟩
  have hj : j < xs.length := (List.getElem?_eq_some_iff.1 hx).1
  show seg 1 j (nums k xs) = _
  apply List.ext_getElem?
  intro m
  unfold seg nums
  rcases m with _ | m
  · rw [List.getElem?_take_of_lt (by omega), List.getElem?_drop, List.getElem?_map]; simp [hx]
  · rw [List.getElem?_eq_none (by rw [List.length_take]; omega)]; rfl
theorem O_int_row {k : IntKind} {xs : List Int} {F : List Nat} {v : Value} (h : (Od.int k).O e w F v xs) : w.ownsRow 0 e 1 v xs.length (nums k xs) ∧ F = v.ownBlock.toList := by
  obtain ⟨cs, Fs, hr, hl, rfl, hM⟩ := h
  have hc : cs = nums k xs := by
    apply List.ext_getElem?
    intro j
    have hlen : cs.length = xs.length := by have := hr.1; simpa [Od.int] using this
    by_cases hj : j < xs.length
    · have hm := hM j _ _ (List.getElem?_eq_getElem hj) (List.getElem?_eq_getElem (show j < Fs.length by omega))
      have h2 : (seg 1 j cs)[0]? = some (.int k xs[j]) := by rw [show seg 1 j cs = [.int k xs[j]] from hm.2]; rfl
      rw [seg_get (sz := 1) (n := xs.length) (by omega) hj (by omega)] at h2
      simp only [Nat.mul_one, Nat.add_zero] at h2
      rw [h2]; simp [nums, hj]
    · rw [List.getElem?_eq_none (by omega), List.getElem?_eq_none (by simp [nums]; omega)]
  have hf : Fs.flatten = [] := by
    rw [List.flatten_eq_nil_iff]
    intro G hG
    obtain ⟨j, hj⟩ := List.getElem?_of_mem hG
    have hjl : j < xs.length := by have := (List.getElem?_eq_some_iff.1 hj).1; omega
    exact (hM j _ G (List.getElem?_eq_getElem hjl) hj).1
  rw [hf, List.append_nil, ← hc]
  exact ⟨hr, rfl⟩
/-- make: a new row of zeros. -/
theorem O_made (d : Od α) (e : TypeId) (w : World) (z : Array Value) (zx : α) (n : Nat) (hn : n ≤ 9223372036854775807) (hz : z.size = d.sz) (hs : 0 < d.sz) (hM : ∀ w', d.M w' [] zx z.toList) :
    d.O e (w.alloc (.cells (madeCells z (n * d.sz)) e)) [w.heap.size] (.slice (some ⟨w.heap.size, 0, none⟩) n n) (List.replicate n zx) := by
  have hsz : (madeCells z (n * d.sz)).size = n * d.sz := by simp [size_madeCells]
  have hsl : (madeCells z (n * d.sz)).toList.length = n * d.sz := by rw [Array.length_toList, hsz]
  have h := World.ownsRow_lit (base := 0) (e := e) (size := d.sz) w (madeCells z (n * d.sz)) n (Nat.zero_le _) (by simpa [maxLen] using hn) hsz
  refine ⟨(madeCells z (n * d.sz)).toList, List.replicate n [], by simpa using h, by simp, by simp [Value.ownBlock], fun j x G hx hG => ?_⟩
  have hG' : G = [] := (List.mem_replicate.1 (List.mem_of_getElem? hG)).2
  have hx' : x = zx := (List.mem_replicate.1 (List.mem_of_getElem? hx)).2
  have hj : j < n := by have := (List.getElem?_eq_some_iff.1 hx).1; simpa using this
  subst hG' hx'
  have hseg : seg d.sz j (madeCells z (n * d.sz)).toList = z.toList := by
    apply List.ext_getElem?
    intro m
    by_cases hm : m < d.sz
    · rw [seg_get (n := n) hsl hj hm]
      have hlt : j * d.sz + m < n * d.sz := by
        have : (j + 1) * d.sz ≤ n * d.sz := Nat.mul_le_mul_right _ hj
        rw [Nat.succ_mul] at this; omega
      have hmod : (j * d.sz + m) % z.size = m := by rw [hz, Nat.mul_comm, Nat.mul_add_mod, Nat.mod_eq_of_lt hm]
      have hmz : m < z.size := by omega
      simp [madeCells, hlt, hmod, hmz]
    · rw [List.getElem?_eq_none (by rw [seg_length (n := n) hsl hj]; omega), List.getElem?_eq_none (by rw [Array.length_toList, hz]; omega)]
  rw [hseg]; exact hM _
end
/-! ### make, append: operations -/
section
variable {α : Type} {P : Program} {ops : Array Oper} {rest : List Oper} {o : Oper} {a : Act} {Q : Exit → Act → World → Prop} {W : World}
theorem Chg.of_grown {w w1 : World} {row : Option Nat} (h : w.grownBy w1 row) : Chg row.toList w w1 :=
  ⟨h.os, h.tape, h.output, h.size, fun k hk hn => h.block k hk (fun e => hn (by rw [← e]; simp))⟩
theorem make_O (d : Od α) (hgd : o.guard = none) {N : Tmp} (hd : o.dst = some N) (t e : TypeId) (x y : Operand) (ho : o.op = .makeSlice t x y) (n : Nat) (hx : a.eval x = .int .i64 (n : Int)) (hy : a.eval y = .int .i64 (n : Int))
    (ht : P.underlying t = some (.slice e)) (z : Value) (bytes : Nat) (hinfo : (P.info? e).map (fun i => (i.zero, i.size, i.bytes)) = some (some z, d.sz, bytes)) (hz : z.cells.size = d.sz) (hs0 : 0 < d.sz) (hb0 : 0 < bytes)
    (z0 : α) (hzero : ∀ w', d.M w' [] z0 z.cells.toList) (hl : n * bytes ≤ 281474976710656)
    (h : ∀ w1, d.O e w1 [W.heap.size] (.slice (some ⟨W.heap.size, 0, none⟩) n n) (List.replicate n z0) → Below W.heap.size W w1 → wpList P ops Q rest (a.put o.dst (.slice (some ⟨W.heap.size, 0, none⟩) n n)) w1) : wpList P ops Q (o :: rest) a W := by
  obtain ⟨i0, hi, hzz⟩ := Option.map_eq_some_iff.1 hinfo
  simp only [Prod.mk.injEq] at hzz
  obtain ⟨hz0, hz1, hz2⟩ := hzz
  have hm : n ≤ 281474976710656 := Nat.le_trans (Nat.le_mul_of_pos_right _ hb0) hl
  have hr := run_make (P := P) W t e i0 z ht hi hz0 .i64 .i64 (n : Int) (n : Int) (by omega) (by omega)
    (by
      have h3 : ((i0.bytes * n : Nat) : Int) ≤ 281474976710656 := by rw [hz2, Nat.mul_comm]; omega
      rwa [Int.natCast_mul] at h3) (by omega)
  simp only [Int.toNat_natCast] at hr
  rw [hz1] at hr
  refine Kd.event_run hgd (v := .slice (some ⟨W.heap.size, 0, none⟩) n n) (w1 := W.alloc (.cells (madeCells z.cells (n * d.sz)) e)) ?_ ?_
  · simp [execOp, ho, hx, hy, hr]
  · exact h _ (O_made d e W z.cells z0 n (by omega) hz hs0 hzero) (below_alloc (Below.refl _ _) _)
/-- append(v, y), y of the elements' type, laid in a block of its own ahead. -/
theorem append_O (d : Od α) (hgd : o.guard = none) (s x : Operand) (t e : TypeId) (z : Value) (bytes : Nat)
    (ho : o.op = .call { callee := .builtin .append, args := #[s, x], argTypes := #[t, t] })
    (ht : P.underlying t = some (.slice e)) (hinfo : (P.info? e).map (fun i => (i.zero, i.size, i.bytes)) = some (some z, d.sz, bytes)) (hz : z.cells.size = d.sz) (hs0 : 0 < d.sz) (hb0 : 0 < bytes)
    (v : Value) (xs : List α) (F : List Nat) (y : α) (G : List Nat) (ys : List Value) (hs : a.eval s = v) (hx : a.eval x = .slice (some ⟨W.heap.size, 0, none⟩) 1 1)
    (HO : d.O e W F v xs) (hnd : F.Nodup) (hy : d.M W G y ys) (nG : G.Nodup) (dG : ∀ k ∈ G, k ∉ F) (hl : (xs.length + 1) * bytes ≤ 140737488355328)
    (h : ∀ v1 w1 F1, d.O e w1 F1 v1 (xs ++ [y]) → F1.Nodup → (∀ k ∈ F1, k ∈ F ∨ k ∈ G ∨ W.heap.size ≤ k) → Chg F W w1 → wpList P ops Q rest (a.put o.dst v1) w1) :
    wpList P ops Q (o :: rest) a (W.alloc (.cells ys.toArray e)) := by
  have hmem := mem_own HO
  have hltF := O_lt HO
  have hltG := d.M_lt hy
  obtain ⟨cs, Fs, hr, hlf, rfl, hM⟩ := HO
  rw [List.nodup_append] at hnd
  obtain ⟨_, nF, dO⟩ := hnd
  refine print_append_cells (w0 := W) 0 hgd s x t e z d.sz bytes ho ht hinfo hz hs0 hb0 v xs.length cs ys hs hx (d.M_len hy) (d.M_one hy) hr (Below.refl 0 W) (Nat.zero_le _) hl ?_
  intro v1 w1 hown _ hg hat
  have hmv : ∀ k, k < W.heap.size → v.ownBlock ≠ some k → w1.heap[k]? = W.heap[k]? := fun k hk hne => hg.block k hk (fun e => hne e.symm)
  refine h v1 w1 (v1.ownBlock.toList ++ (Fs ++ [G]).flatten) ⟨cs ++ ys, Fs ++ [G], by simpa using hown, by simp [hlf], rfl, fun j z' H hz' hH => ?_⟩ ?_ (fun k hk => ?_) ((Chg.of_grown hg).mono (fun k hk => List.mem_append_left _ hk))
  · rcases Nat.lt_or_ge j xs.length with hj | hj
    · rw [List.getElem?_append_left hj] at hz'
      rw [List.getElem?_append_left (by omega)] at hH
      have e1 : seg d.sz j (cs ++ ys) = seg d.sz j cs := by
        unfold seg
        have h1 : (j + 1) * d.sz ≤ xs.length * d.sz := Nat.mul_le_mul_right _ hj
        rw [Nat.succ_mul] at h1
        have h2 := hr.1
        rw [List.drop_append_of_le_length (by omega), List.take_append_of_le_length (by rw [List.length_drop]; omega)]
      rw [e1]
      refine d.M_move (hM j z' H hz' hH) (fun k hk => hmv k (d.M_lt (hM j z' H hz' hH) k hk) (fun e2 => ?_))
      exact dO k (by rw [e2]; simp) k (List.mem_flatten.2 ⟨H, List.mem_of_getElem? hH, hk⟩) rfl
    · have hj' : j = xs.length := by
        have := (List.getElem?_eq_some_iff.1 hz').1
        simp at this; omega
      subst hj'
      have e1 : y = z' := by simpa using hz'
      have e2 : G = H := by rw [← hlf] at hH; simpa using hH
      subst e1 e2
      have e3 : seg d.sz xs.length (cs ++ ys) = ys := by
        unfold seg
        rw [← hr.1, List.drop_left, List.take_of_length_le (by rw [d.M_len hy]; exact Nat.le_refl _)]
      rw [e3]
      exact d.M_move hy (fun k hk => hmv k (hltG k hk) (fun e2 => dG k hk (by rw [e2]; simp)))
  · rw [List.flatten_append, List.flatten_cons, List.flatten_nil, List.append_nil, List.nodup_append, List.nodup_append]
    have hv1 : ∀ k, k ∈ v1.ownBlock.toList → v.ownBlock = some k ∨ W.heap.size ≤ k := by
      intro k hk
      have hk' : v1.ownBlock = some k := by simpa using hk
      rcases hat with hat | ⟨b, hb, hge⟩
      · exact .inl (by rw [← hat]; exact hk')
      · rw [hb] at hk'; cases hk'; exact .inr hge
    refine ⟨by cases v1.ownBlock <;> simp, ⟨nF, nG, fun a ha b hb e => dG b hb (by rw [← e]; exact List.mem_append_right _ ha)⟩, fun a ha b hb e => ?_⟩
    subst e
    rcases hv1 a ha with h1 | h1
    · rcases List.mem_append.1 hb with hb | hb
      · exact dO a (by rw [h1]; simp) a hb rfl
      · exact dG a hb (by rw [h1]; simp)
    · rcases List.mem_append.1 hb with hb | hb
      · have := hltF a (List.mem_append_right _ hb); omega
      · have := hltG a hb; omega
  · rcases List.mem_append.1 hk with hk | hk
    · have hk' : v1.ownBlock = some k := by simpa using hk
      rcases hat with hat | ⟨b, hb, hge⟩
      · exact .inl (hmem k (by rw [← hat]; exact hk'))
      · rw [hb] at hk'; cases hk'; exact .inr (.inr hge)
    · rw [List.flatten_append, List.flatten_cons, List.flatten_nil, List.append_nil] at hk
      rcases List.mem_append.1 hk with hk | hk
      · exact .inl (List.mem_append_right _ hk)
      · exact .inr (.inl hk)
theorem reads_of_C {k : IntKind} {w : World} {A : Option Addr} {n : Nat} {xs : List Int} (h : (Kd.int k).C w A n xs) : ReadsInt w k A n xs := Kd.reads_of_C h
/-- append(v, u...), numbers. -/
theorem append_ints (k : IntKind) (hgd : o.guard = none) (s x : Operand) (t e : TypeId) (bytes : Nat)
    (ho : o.op = .call { callee := .builtin .append, args := #[s, x], argTypes := #[t, t] })
    (ht : P.underlying t = some (.slice e)) (hinfo : (P.info? e).map (fun i => (i.zero, i.size, i.bytes)) = some (some (.int k 0), 1, bytes)) (hb0 : 0 < bytes)
    (v u : Value) (xs ys : List Int) (F : List Nat) (hs : a.eval s = v) (hx : a.eval x = u) (HO : (Od.int k).O e W F v xs) (HR : RK (Kd.int k) W u ys) (hl : (xs.length + ys.length) * bytes ≤ 140737488355328)
    (h : ∀ v1 w1 F1, (Od.int k).O e w1 F1 v1 (xs ++ ys) → F1.Nodup → (∀ k ∈ F1, k ∈ F ∨ W.heap.size ≤ k) → Chg F W w1 → wpList P ops Q rest (a.put o.dst v1) w1) :
    wpList P ops Q (o :: rest) a W := by
  obtain ⟨hr, rfl⟩ := O_int_row HO
  obtain ⟨A, c, rfl, hc, hC⟩ := HR
  refine print_append_row (w0 := W) 0 hgd s x t e k bytes ho ht hinfo hb0 v xs ys A ys.length c hs hx hr (reads_of_C hC) (Below.refl 0 W) (Nat.zero_le _) hl ?_
  intro v1 w1 hown _ hg hat
  refine h v1 w1 v1.ownBlock.toList (O_int k hown rfl) (by cases v1.ownBlock <;> simp) (fun k hk => ?_) (Chg.of_grown hg)
  have hk' : v1.ownBlock = some k := by simpa using hk
  rcases hat with hat | ⟨b, hb, hge⟩
  · exact .inl (by rw [← hat]; exact hk)
  · rw [hb] at hk'; cases hk'; exact .inr hge
end
end Go.Proofs.Ytlmnmcfieagmbaa.Fp
