/- Own text: Fp FpStep RJ RP RQ RG. -/
import Derived.Test.YtggmifnblcjdfaaGreatXWWords
import Derived.Laws.BitsLemmas
import Derived.OrdersHeld
import Derived.Deep.RegionHeld3
import Derived.Deep.AppendLies
import Derived.StillTail
set_option linter.unusedVariables false
set_option linter.unusedSimpArgs false
namespace Go.Proofs.YtggmifnblcjdfaaGreat
theorem qqP : (∀ (α : Type) (l : List α) (i : Nat) (h : i < l.toArray.size), l.toArray[i] = l[i]'(by simpa using h)) ∧ (∀ (α : Type) (a : α) (l : List α) (i : Nat) (h : i + 1 < (a :: l).length), (a :: l)[i + 1] = l[i]'(by simpa using h)) ∧ (∀ (α : Type) (a : α) (l : List α) (h : 0 < (a :: l).length), (a :: l)[0] = a) ∧ (∀ (α : Type) (l : List α) (i : Nat) (a : α), l.toArray.setIfInBounds i a = (l.set i a).toArray) ∧ (∀ (α : Type) (a b : α) (l : List α), (a :: l).set 0 b = b :: l) ∧ (∀ (α : Type) (a b : α) (l : List α) (n : Nat), (a :: l).set (n + 1) b = a :: l.set n b) :=
 ⟨fun _ _ _ _ => by simp, fun _ _ _ _ _ => rfl, fun _ _ _ _ => rfl, fun _ _ _ _ => by simp, fun _ _ _ _ => rfl, fun _ _ _ _ _ => rfl⟩
namespace Fp
open Go.RowKit Go.Proofs.YtggmifnblcjdfaaGreatW.PrintWords
structure Chg (S : List Nat) (w w' : World) : Prop where
 os : w'.os = w.os
 tape : w'.tape = w.tape
 output : w'.output = w.output
 size : w.heap.size ≤ w'.heap.size
 block : ∀ k, k < w.heap.size → k ∉ S → w'.heap[k]? = w.heap[k]?
theorem Chg.refl (S : List Nat) (w : World) : Chg S w w := ⟨rfl, rfl, rfl, Nat.le_refl _, fun _ _ _ => rfl⟩
theorem Chg.trans {S : List Nat} {a b c : World} (h : Chg S a b) (k : Chg S b c) : Chg S a c :=
 ⟨k.os.trans h.os, k.tape.trans h.tape, k.output.trans h.output, Nat.le_trans h.size k.size, fun i hi hn => (k.block i (Nat.lt_of_lt_of_le hi h.size) hn).trans (h.block i hi hn)⟩
theorem Chg.mono {S T : List Nat} {a b : World} (h : Chg S a b) (hs : ∀ k ∈ S, k ∈ T) : Chg T a b := ⟨h.os, h.tape, h.output, h.size, fun i hi hn => h.block i hi (fun e => hn (hs i e))⟩
theorem Chg.of_below {S : List Nat} {a b : World} (h : Below a.heap.size a b) : Chg S a b := ⟨h.os, h.tape, h.output, h.size, fun i hi _ => h.block i hi⟩
theorem Chg.below {S : List Nat} {w a b : World} (h : Below w.heap.size w a) (k : Chg S a b) (hs : ∀ i ∈ S, w.heap.size ≤ i) : Below w.heap.size w b :=
 ⟨k.os.trans h.os, k.tape.trans h.tape, k.output.trans h.output, Nat.le_trans h.size k.size, fun i hi => (k.block i (Nat.lt_of_lt_of_le hi h.size) (fun e => by have := hs i e; omega)).trans (h.block i hi)⟩
theorem Chg.drewN {S : List Nat} {a b : World} (h : Chg S a b) (n : Nat) : Chg S a (b.drewN n) := ⟨h.os, h.tape, h.output, h.size, h.block⟩
theorem Chg.drew {S : List Nat} {a b : World} (h : Chg S a b) : Chg S a b.drew := ⟨h.os, h.tape, h.output, h.size, h.block⟩
theorem Chg.set {S : List Nat} {a b : World} (h : Chg S a b) {p : Addr} (hp : p.block ∈ S ∨ a.heap.size ≤ p.block) (u : Value) : Chg S a (b.setCell p u) :=
 ⟨h.os, h.tape, h.output, Nat.le_trans h.size (by simp [World.setCell]), fun i hi hn => by
  rw [Below.heap_setCell _ _ _ _ (by rcases hp with hp | hp; intro e; exact hn (e ▸ hp); omega)]
  exact h.block i hi hn⟩
theorem below_next {w w1 w2 : World} (h : Below w.heap.size w w1) (k : Below w1.heap.size w1 w2) : Below w.heap.size w w2 := h.trans (k.mono h.size)
structure Od (α : Type) where
 sz : Nat
 kd : Kd α
 hsz : kd.sz = sz
 M : World → List Nat → α → List Value → Prop
 M_K : ∀ {w F x cs}, M w F x cs → kd.K w x cs
 M_move : ∀ {w w1 : World} {F x cs}, M w F x cs → (∀ k ∈ F, w1.heap[k]? = w.heap[k]?) → M w1 F x cs
 M_lt : ∀ {w : World} {F x cs}, M w F x cs → ∀ k ∈ F, k < w.heap.size
theorem Od.M_len {α : Type} (d : Od α) {w : World} {F : List Nat} {x : α} {cs : List Value} (h : d.M w F x cs) : cs.length = d.sz := by rw [← d.hsz]; exact d.kd.K_len (d.M_K h)
theorem Od.M_one {α : Type} (d : Od α) {w : World} {F : List Nat} {x : α} {cs : List Value} (h : d.M w F x cs) : ∀ u ∈ cs, u.oneCell' = true := d.kd.K_one (d.M_K h)
def seg (sz j : Nat) (cs : List Value) : List Value := (cs.drop (j * sz)).take sz
theorem seg_length {sz j n : Nat} {cs : List Value} (h : cs.length = n * sz) (hj : j < n) : (seg sz j cs).length = sz := by
 have : (j + 1) * sz ≤ n * sz := Nat.mul_le_mul_right _ hj
 rw [Nat.succ_mul] at this
 rw [seg, List.length_take, List.length_drop]; omega
theorem seg_get {sz j n t : Nat} {cs : List Value} (h : cs.length = n * sz) (hj : j < n) (ht : t < sz) : (seg sz j cs)[t]? = cs[j * sz + t]? := by
 rw [seg, List.getElem?_take_of_lt ht, List.getElem?_drop]
def Od.O {α : Type} (d : Od α) (e : TypeId) (w : World) (F : List Nat) (v : Value) (xs : List α) : Prop :=
 ∃ (cs : List Value) (Fs : List (List Nat)), w.ownsRow 0 e d.sz v xs.length cs ∧ Fs.length = xs.length ∧ F = v.ownBlock.toList ++ Fs.flatten ∧
  ∀ (j : Nat) (x : α) (G : List Nat), xs[j]? = some x → Fs[j]? = some G → d.M w G x (seg d.sz j cs)
section
variable {α : Type} {d : Od α} {e : TypeId} {w w1 : World} {F : List Nat} {v : Value} {xs : List α}
theorem mem_own (h : d.O e w F v xs) : ∀ k, v.ownBlock = some k → k ∈ F := by
 obtain ⟨cs, Fs, _, _, rfl, _⟩ := h
 intro k hk
 simp [hk]
theorem O_move (h : d.O e w F v xs) (hm : ∀ k ∈ F, w1.heap[k]? = w.heap[k]?) : d.O e w1 F v xs := by
 have ho := mem_own h
 obtain ⟨cs, Fs, hr, hl, rfl, hM⟩ := h
 refine ⟨cs, Fs, own_move hr (fun k hk => hm k (ho k hk)), hl, rfl, fun j x G hx hG => d.M_move (hM j x G hx hG) (fun k hk => hm k ?_)⟩
 exact List.mem_append_right _ (List.mem_flatten.2 ⟨G, List.mem_of_getElem? hG, hk⟩)
theorem O_lt (h : d.O e w F v xs) : ∀ k ∈ F, k < w.heap.size := by
 obtain ⟨cs, Fs, hr, hl, rfl, hM⟩ := h
 intro k hk
 rcases List.mem_append.1 hk with hk | hk
 ·exact (hr.lt k (by simpa using hk)).2
 ·obtain ⟨G, hG, hk⟩ := List.mem_flatten.1 hk
  obtain ⟨j, hj⟩ := List.getElem?_of_mem hG
  have hjl : j < xs.length := by have := (List.getElem?_eq_some_iff.1 hj).1; omega
  exact d.M_lt (hM j _ G (List.getElem?_eq_getElem hjl) hj) k hk
theorem O_nil (d : Od α) (e : TypeId) (w : World) : d.O e w [] (.slice none 0 0) [] := ⟨[], [], own_nil _ _ _ _, rfl, rfl, fun j x G hx => by simp at hx⟩
theorem O_reads (h : d.O e w F v xs) : ∃ A c, v = .slice A xs.length c ∧ xs.length ≤ c ∧ d.kd.C w A xs.length xs := by
 obtain ⟨cs, Fs, hr, hl, rfl, hM⟩ := h
 have hR : Reps (d.kd.K w) d.sz xs cs := ⟨hr.1, fun j x hx => by
  have hj : j < Fs.length := by rw [hl]; exact (List.getElem?_eq_some_iff.1 hx).1
  exact d.M_K (hM j x _ hx (List.getElem?_eq_getElem hj))⟩
 obtain ⟨A, c, rfl, hC⟩ := own_reads_row hr hR rfl
 refine ⟨A, c, rfl, own_le hr, ?_⟩
 show ReadsRow (d.kd.K w) d.kd.sz w A xs.length xs
 rw [d.hsz]; exact hC
theorem O_form (h : d.O e w F v xs) (hn : 0 < xs.length) : ∃ g cap, v = .slice (some ⟨g, 0, none⟩) xs.length cap ∧ g ∈ F ∧ ∃ cur, w.heap[g]? = some (.cells cur e (0, 0)) := by
 have ho := mem_own h
 obtain ⟨cs, Fs, hr, hl, rfl, hM⟩ := h
 rcases hr.2 with ⟨_, h0⟩ | ⟨g, cap, cur, rfl, _, hg, _⟩
 ·omega
 ·exact ⟨g, cap, rfl, ho g rfl, cur, hg⟩
theorem O_elem {g n cap : Nat} (h : d.O e w F (.slice (some ⟨g, 0, none⟩) n cap) xs) {i : Nat} {x : α} (hi : xs[i]? = some x) :
  ∃ (c : List Value) (G : List Nat), d.M w G x c ∧ (∀ k ∈ G, k ∈ F) ∧ (∀ (t : Nat) (u : Value), c[t]? = some u → w.cell? ⟨g, i * d.sz + t, none⟩ = some u) ∧ (∀ t, w.frozen? ⟨g, i * d.sz + t, none⟩ = false) ∧ (F.Nodup → g ∉ G) := by
 obtain ⟨cs, Fs, hr, hl, rfl, hM⟩ := h
 have hil : i < xs.length := (List.getElem?_eq_some_iff.1 hi).1
 have hn : n = xs.length := by
  rcases hr.2 with ⟨h', _⟩ | ⟨_, _, _, h', _⟩ <;> simp at h'
  exact h'.2.1
 subst hn
 have hG := List.getElem?_eq_getElem (show i < Fs.length by omega)
 refine ⟨seg d.sz i cs, _, hM i x _ hi hG, fun k hk => List.mem_append_right _ (List.mem_flatten.2 ⟨_, List.getElem_mem _, hk⟩), fun t u hu => ?_, fun t => hr.frozenAt _, fun hnd hg => ?_⟩
 ·have ht : t < d.sz := by
   have h1 := (List.getElem?_eq_some_iff.1 hu).1
   rw [seg_length hr.1 hil] at h1; exact h1
  rw [seg_get hr.1 hil ht] at hu
  rw [hr.cellAt _ ?_]
  ·exact hu
  ·have : (i + 1) * d.sz ≤ xs.length * d.sz := Nat.mul_le_mul_right _ hil
   rw [Nat.succ_mul] at this; omega
 ·have h1 : g ∈ Fs.flatten := List.mem_flatten.2 ⟨_, List.getElem_mem _, hg⟩
  simp only [Value.ownBlock, Option.toList_some, List.cons_append, List.nil_append, List.nodup_cons] at hnd
  exact hnd.1 h1
theorem split_at_ {β : Type} {L : List β} {i : Nat} {x : β} (h : L[i]? = some x) : ∃ A B, L = A ++ x :: B ∧ A.length = i := by
 obtain ⟨hl, hx⟩ := List.getElem?_eq_some_iff.1 h
 refine ⟨L.take i, L.drop (i + 1), ?_, by simp; omega⟩
 rw [← hx, ← List.drop_eq_getElem_cons hl, List.take_append_drop]
theorem get_mid {β : Type} {A B : List β} {x : β} {j : Nat} (hj : j ≠ A.length) (y : β) : (A ++ y :: B)[j]? = (A ++ x :: B)[j]? := by
 rcases Nat.lt_or_ge j A.length with h | h
 ·rw [List.getElem?_append_left h, List.getElem?_append_left h]
 ·rw [List.getElem?_append_right h, List.getElem?_append_right h]
  obtain ⟨m, hm⟩ : ∃ m, j - A.length = m + 1 := ⟨j - A.length - 1, by omega⟩
  rw [hm]; simp
end
def Od.int (k : IntKind) : Od Int where
 sz := 1
 kd := Kd.int k
 hsz := rfl
 M := fun _ F x cs => F = [] ∧ cs = [.int k x]
 M_K := fun h => h.2
 M_move := fun h _ => h
 M_lt := fun h k hk => by rw [h.1] at hk; cases hk
def Od.bool : Od Bool where
 sz := 1
 kd := Kd.bool
 hsz := rfl
 M := fun _ F x cs => F = [] ∧ cs = [.bool x]
 M_K := fun h => h.2
 M_move := fun h _ => h
 M_lt := fun h k hk => by rw [h.1] at hk; cases hk
def Od.slice {α : Type} (e : TypeId) (d : Od α) : Od (List α) where
 sz := 1
 kd := Kd.slice e d.kd
 hsz := rfl
 M := fun w F xs cs => ∃ v, cs = [v] ∧ d.O e w F v xs
 M_K := by
  rintro w F xs cs ⟨v, rfl, h⟩
  obtain ⟨A, c, rfl, hl, hC⟩ := O_reads h
  exact ⟨A, c, rfl, hl, hC⟩
 M_move := by
  rintro w w1 F xs cs ⟨v, rfl, h⟩ hm
  exact ⟨v, rfl, O_move h hm⟩
 M_lt := by
  rintro w F xs cs ⟨v, rfl, h⟩
  exact O_lt h
def Od.pair {α β : Type} (a : Od α) (b : Od β) : Od (α × β) where
 sz := a.sz + b.sz
 kd := Kd.pair a.kd b.kd
 hsz := by show a.kd.sz + b.kd.sz = _; rw [a.hsz, b.hsz]
 M := fun w F x cs => ∃ F1 F2 c1 c2, F = F1 ++ F2 ∧ cs = c1 ++ c2 ∧ a.M w F1 x.1 c1 ∧ b.M w F2 x.2 c2
 M_K := by
  rintro w F x cs ⟨F1, F2, c1, c2, rfl, rfl, h1, h2⟩
  exact ⟨c1, c2, rfl, a.M_K h1, b.M_K h2⟩
 M_move := by
  rintro w w1 F x cs ⟨F1, F2, c1, c2, rfl, rfl, h1, h2⟩ hm
  exact ⟨F1, F2, c1, c2, rfl, rfl, a.M_move h1 (fun k hk => hm k (List.mem_append_left _ hk)), b.M_move h2 (fun k hk => hm k (List.mem_append_right _ hk))⟩
 M_lt := by
  rintro w F x cs ⟨F1, F2, c1, c2, rfl, rfl, h1, h2⟩ k hk
  rcases List.mem_append.1 hk with hk | hk
  ·exact a.M_lt h1 k hk
  ·exact b.M_lt h2 k hk
def Od.iso {α β : Type} (d : Od α) (f : β → α) : Od β where
 sz := d.sz
 kd := Kd.iso d.kd f
 hsz := d.hsz
 M := fun w F x cs => d.M w F (f x) cs
 M_K := fun h => d.M_K h
 M_move := fun h hm => d.M_move h hm
 M_lt := fun h => d.M_lt h
def RK {α : Type} (k : Kd α) (w : World) (v : Value) (xs : List α) : Prop := ∃ A c, v = .slice A xs.length c ∧ xs.length ≤ c ∧ k.C w A xs.length xs
section
variable {α : Type} {d : Od α} {k : Kd α} {e : TypeId} {w w1 : World} {F : List Nat} {v : Value} {xs : List α}
theorem RK_below (h : RK k w v xs) (hb : Below w.heap.size w w1) : RK k w1 v xs := by
 obtain ⟨A, c, rfl, hl, hC⟩ := h
 exact ⟨A, c, rfl, hl, Kd.C_below hC hb⟩
theorem O_RK (h : d.O e w F v xs) : RK d.kd w v xs := O_reads h
theorem RK_len (h : RK k w v xs) : xs.length ≤ 9223372036854775807 := by
 obtain ⟨A, c, rfl, hl, hC⟩ := h
 exact hC.2.1
theorem RK_K (h : RK k w v xs) (e : Nat) : (Kd.slice e k).K w xs [v] := by
 obtain ⟨A, c, rfl, hl, hC⟩ := h
 exact ⟨A, c, rfl, hl, hC⟩
theorem RK_of_K {e : Nat} {cs : List Value} (h : (Kd.slice e k).K w xs cs) : ∃ v, cs = [v] ∧ RK k w v xs := by
 obtain ⟨A, c, rfl, hl, hC⟩ := h
 exact ⟨_, rfl, A, c, rfl, hl, hC⟩
def Fresh (w : World) (F : List Nat) : Prop := F.Nodup ∧ ∀ k ∈ F, w.heap.size ≤ k
theorem Fresh.nil (w : World) : Fresh w [] := ⟨List.nodup_nil, by simp⟩
theorem O_int (k : IntKind) {xs : List Int} {n : Nat} {v : Value} (h : w.ownsRow 0 e 1 v n (nums k xs)) (hn : n = xs.length) : (Od.int k).O e w v.ownBlock.toList v xs := by
 subst hn
 refine ⟨nums k xs, List.replicate xs.length [], h, by simp, by simp, fun j x G hx hG => ?_⟩
 have hG' : G = [] := by
  have := List.mem_of_getElem? hG
  exact (List.mem_replicate.1 this).2
 subst hG'
 refine ⟨rfl, ?_⟩
 have hj : j < xs.length := (List.getElem?_eq_some_iff.1 hx).1
 show seg 1 j (nums k xs) = _
 apply List.ext_getElem?
 intro m
 unfold seg nums
 rcases m with _ | m
 ·rw [List.getElem?_take_of_lt (by omega), List.getElem?_drop, List.getElem?_map]; simp [hx]
 ·rw [List.getElem?_eq_none (by rw [List.length_take]; omega)]; rfl
theorem O_int_row {k : IntKind} {xs : List Int} {F : List Nat} {v : Value} (h : (Od.int k).O e w F v xs) : w.ownsRow 0 e 1 v xs.length (nums k xs) ∧ F = v.ownBlock.toList := by
 obtain ⟨cs, Fs, hr, hl, rfl, hM⟩ := h
 have hc : cs = nums k xs := by
  apply List.ext_getElem?
  intro j
  have hlen : cs.length = xs.length := by have := hr.1; simpa [Od.int] using this
  by_cases hj : j < xs.length
  ·have hm := hM j _ _ (List.getElem?_eq_getElem hj) (List.getElem?_eq_getElem (show j < Fs.length by omega))
   have h2 : (seg 1 j cs)[0]? = some (.int k xs[j]) := by rw [show seg 1 j cs = [.int k xs[j]] from hm.2]; rfl
   rw [seg_get (sz := 1) (n := xs.length) (by omega) hj (by omega)] at h2
   simp only [Nat.mul_one, Nat.add_zero] at h2
   rw [h2]; simp [nums, hj]
  ·rw [List.getElem?_eq_none (by omega), List.getElem?_eq_none (by simp [nums]; omega)]
 have hf : Fs.flatten = [] := by
  rw [List.flatten_eq_nil_iff]
  intro G hG
  obtain ⟨j, hj⟩ := List.getElem?_of_mem hG
  have hjl : j < xs.length := by have := (List.getElem?_eq_some_iff.1 hj).1; omega
  exact (hM j _ G (List.getElem?_eq_getElem hjl) hj).1
 rw [hf, List.append_nil, ← hc]
 exact ⟨hr, rfl⟩
theorem O_made (d : Od α) (e : TypeId) (w : World) (z : Array Value) (zx : α) (n : Nat) (hn : n ≤ 9223372036854775807) (hz : z.size = d.sz) (hs : 0 < d.sz) (hM : ∀ w', d.M w' [] zx z.toList) :
  d.O e (w.alloc (.cells (madeCells z (n * d.sz)) e)) [w.heap.size] (.slice (some ⟨w.heap.size, 0, none⟩) n n) (List.replicate n zx) := by
 have hsz : (madeCells z (n * d.sz)).size = n * d.sz := by simp [size_madeCells]
 have hsl : (madeCells z (n * d.sz)).toList.length = n * d.sz := by rw [Array.length_toList, hsz]
 have h := World.ownsRow_lit (base := 0) (e := e) (size := d.sz) w (madeCells z (n * d.sz)) n (Nat.zero_le _) (by simpa [maxLen] using hn) hsz
 refine ⟨(madeCells z (n * d.sz)).toList, List.replicate n [], by simpa using h, by simp, by simp [Value.ownBlock], fun j x G hx hG => ?_⟩
 have hG' : G = [] := (List.mem_replicate.1 (List.mem_of_getElem? hG)).2
 have hx' : x = zx := (List.mem_replicate.1 (List.mem_of_getElem? hx)).2
 have hj : j < n := by have := (List.getElem?_eq_some_iff.1 hx).1; simpa using this
 subst hG' hx'
 have hseg : seg d.sz j (madeCells z (n * d.sz)).toList = z.toList := by
  apply List.ext_getElem?
  intro m
  by_cases hm : m < d.sz
  ·rw [seg_get (n := n) hsl hj hm]
   have hlt : j * d.sz + m < n * d.sz := by
    have : (j + 1) * d.sz ≤ n * d.sz := Nat.mul_le_mul_right _ hj
    rw [Nat.succ_mul] at this; omega
   have hmod : (j * d.sz + m) % z.size = m := by rw [hz, Nat.mul_comm, Nat.mul_add_mod, Nat.mod_eq_of_lt hm]
   have hmz : m < z.size := by omega
   simp [madeCells, hlt, hmod, hmz]
  ·rw [List.getElem?_eq_none (by rw [seg_length (n := n) hsl hj]; omega), List.getElem?_eq_none (by rw [Array.length_toList, hz]; omega)]
 rw [hseg]; exact hM _
end
section
variable {α : Type} {P : Program} {ops : Array Oper} {rest : List Oper} {o : Oper} {a : Act} {Q : Exit → Act → World → Prop} {W : World}
theorem Chg.of_grown {w w1 : World} {row : Option Nat} (h : w.grownBy w1 row) : Chg row.toList w w1 :=
 ⟨h.os, h.tape, h.output, h.size, fun k hk hn => h.block k hk (fun e => hn (by rw [← e]; simp))⟩
theorem make_O (d : Od α) (hgd : o.guard = none) {N : Tmp} (hd : o.dst = some N) (t e : TypeId) (x y : Operand) (ho : o.op = .makeSlice t x y) (n : Nat) (hx : a.eval x = .int .i64 (n : Int)) (hy : a.eval y = .int .i64 (n : Int))
  (ht : P.underlying t = some (.slice e)) (z : Value) (bytes : Nat) (hinfo : (P.info? e).map (fun i => (i.zero, i.size, i.bytes)) = some (some z, d.sz, bytes)) (hz : z.cells.size = d.sz) (hs0 : 0 < d.sz) (hb0 : 0 < bytes)
  (z0 : α) (hzero : ∀ w', d.M w' [] z0 z.cells.toList) (hl : n * bytes ≤ 281474976710656)
  (h : ∀ w1, d.O e w1 [W.heap.size] (.slice (some ⟨W.heap.size, 0, none⟩) n n) (List.replicate n z0) → Below W.heap.size W w1 → wpList P ops Q rest (a.put o.dst (.slice (some ⟨W.heap.size, 0, none⟩) n n)) w1) : wpList P ops Q (o :: rest) a W := by
 obtain ⟨i0, hi, hzz⟩ := Option.map_eq_some_iff.1 hinfo
 simp only [Prod.mk.injEq] at hzz
 obtain ⟨hz0, hz1, hz2⟩ := hzz
 have hm : n ≤ 281474976710656 := Nat.le_trans (Nat.le_mul_of_pos_right _ hb0) hl
 have hr := run_make (P := P) W t e i0 z ht hi hz0 .i64 .i64 (n : Int) (n : Int) (by omega) (by omega)
  (by
   have h3 : ((i0.bytes * n : Nat) : Int) ≤ 281474976710656 := by rw [hz2, Nat.mul_comm]; omega
   rwa [Int.natCast_mul] at h3) (by omega)
 simp only [Int.toNat_natCast] at hr
 rw [hz1] at hr
 refine Kd.event_run hgd (v := .slice (some ⟨W.heap.size, 0, none⟩) n n) (w1 := W.alloc (.cells (madeCells z.cells (n * d.sz)) e)) ?_ ?_
 ·simp [execOp, ho, hx, hy, hr]
 ·exact h _ (O_made d e W z.cells z0 n (by omega) hz hs0 hzero) (below_alloc (Below.refl _ _) _)
theorem append_O (d : Od α) (hgd : o.guard = none) (s x : Operand) (t e : TypeId) (z : Value) (bytes : Nat)
  (ho : o.op = .call { callee := .builtin .append, args := #[s, x], argTypes := #[t, t] })
  (ht : P.underlying t = some (.slice e)) (hinfo : (P.info? e).map (fun i => (i.zero, i.size, i.bytes)) = some (some z, d.sz, bytes)) (hz : z.cells.size = d.sz) (hs0 : 0 < d.sz) (hb0 : 0 < bytes)
  (v : Value) (xs : List α) (F : List Nat) (y : α) (G : List Nat) (ys : List Value) (hs : a.eval s = v) (hx : a.eval x = .slice (some ⟨W.heap.size, 0, none⟩) 1 1)
  (HO : d.O e W F v xs) (hnd : F.Nodup) (hy : d.M W G y ys) (nG : G.Nodup) (dG : ∀ k ∈ G, k ∉ F) (hl : (xs.length + 1) * bytes ≤ 140737488355328)
  (h : ∀ v1 w1 F1, d.O e w1 F1 v1 (xs ++ [y]) → F1.Nodup → (∀ k ∈ F1, k ∈ F ∨ k ∈ G ∨ W.heap.size ≤ k) → Chg F W w1 → wpList P ops Q rest (a.put o.dst v1) w1) :
  wpList P ops Q (o :: rest) a (W.alloc (.cells ys.toArray e)) := by
 have hmem := mem_own HO
 have hltF := O_lt HO
 have hltG := d.M_lt hy
 obtain ⟨cs, Fs, hr, hlf, rfl, hM⟩ := HO
 rw [List.nodup_append] at hnd
 obtain ⟨_, nF, dO⟩ := hnd
 refine print_append_cells (w0 := W) 0 hgd s x t e z d.sz bytes ho ht hinfo hz hs0 hb0 v xs.length cs ys hs hx (d.M_len hy) (d.M_one hy) hr (Below.refl 0 W) (Nat.zero_le _) hl ?_
 intro v1 w1 hown _ hg hat
 have hmv : ∀ k, k < W.heap.size → v.ownBlock ≠ some k → w1.heap[k]? = W.heap[k]? := fun k hk hne => hg.block k hk (fun e => hne e.symm)
 refine h v1 w1 (v1.ownBlock.toList ++ (Fs ++ [G]).flatten) ⟨cs ++ ys, Fs ++ [G], by simpa using hown, by simp [hlf], rfl, fun j z' H hz' hH => ?_⟩ ?_ (fun k hk => ?_) ((Chg.of_grown hg).mono (fun k hk => List.mem_append_left _ hk))
 ·rcases Nat.lt_or_ge j xs.length with hj | hj
  ·rw [List.getElem?_append_left hj] at hz'
   rw [List.getElem?_append_left (by omega)] at hH
   have e1 : seg d.sz j (cs ++ ys) = seg d.sz j cs := by
    unfold seg
    have h1 : (j + 1) * d.sz ≤ xs.length * d.sz := Nat.mul_le_mul_right _ hj
    rw [Nat.succ_mul] at h1
    have h2 := hr.1
    rw [List.drop_append_of_le_length (by omega), List.take_append_of_le_length (by rw [List.length_drop]; omega)]
   rw [e1]
   refine d.M_move (hM j z' H hz' hH) (fun k hk => hmv k (d.M_lt (hM j z' H hz' hH) k hk) (fun e2 => ?_))
   exact dO k (by rw [e2]; simp) k (List.mem_flatten.2 ⟨H, List.mem_of_getElem? hH, hk⟩) rfl
  ·have hj' : j = xs.length := by
    have := (List.getElem?_eq_some_iff.1 hz').1
    simp at this; omega
   subst hj'
   have e1 : y = z' := by simpa using hz'
   have e2 : G = H := by rw [← hlf] at hH; simpa using hH
   subst e1 e2
   have e3 : seg d.sz xs.length (cs ++ ys) = ys := by
    unfold seg
    rw [← hr.1, List.drop_left, List.take_of_length_le (by rw [d.M_len hy]; exact Nat.le_refl _)]
   rw [e3]
   exact d.M_move hy (fun k hk => hmv k (hltG k hk) (fun e2 => dG k hk (by rw [e2]; simp)))
 ·rw [List.flatten_append, List.flatten_cons, List.flatten_nil, List.append_nil, List.nodup_append, List.nodup_append]
  have hv1 : ∀ k, k ∈ v1.ownBlock.toList → v.ownBlock = some k ∨ W.heap.size ≤ k := by
   intro k hk
   have hk' : v1.ownBlock = some k := by simpa using hk
   rcases hat with hat | ⟨b, hb, hge⟩
   ·exact .inl (by rw [← hat]; exact hk')
   ·rw [hb] at hk'; cases hk'; exact .inr hge
  refine ⟨by cases v1.ownBlock <;> simp, ⟨nF, nG, fun a ha b hb e => dG b hb (by rw [← e]; exact List.mem_append_right _ ha)⟩, fun a ha b hb e => ?_⟩
  subst e
  rcases hv1 a ha with h1 | h1
  ·rcases List.mem_append.1 hb with hb | hb
   ·exact dO a (by rw [h1]; simp) a hb rfl
   ·exact dG a hb (by rw [h1]; simp)
  ·rcases List.mem_append.1 hb with hb | hb
   ·have := hltF a (List.mem_append_right _ hb); omega
   ·have := hltG a hb; omega
 ·rcases List.mem_append.1 hk with hk | hk
  ·have hk' : v1.ownBlock = some k := by simpa using hk
   rcases hat with hat | ⟨b, hb, hge⟩
   ·exact .inl (hmem k (by rw [← hat]; exact hk'))
   ·rw [hb] at hk'; cases hk'; exact .inr (.inr hge)
  ·rw [List.flatten_append, List.flatten_cons, List.flatten_nil, List.append_nil] at hk
   rcases List.mem_append.1 hk with hk | hk
   ·exact .inl (List.mem_append_right _ hk)
   ·exact .inr (.inl hk)
theorem reads_of_C {k : IntKind} {w : World} {A : Option Addr} {n : Nat} {xs : List Int} (h : (Kd.int k).C w A n xs) : ReadsInt w k A n xs := Kd.reads_of_C h
theorem append_ints (k : IntKind) (hgd : o.guard = none) (s x : Operand) (t e : TypeId) (bytes : Nat)
  (ho : o.op = .call { callee := .builtin .append, args := #[s, x], argTypes := #[t, t] })
  (ht : P.underlying t = some (.slice e)) (hinfo : (P.info? e).map (fun i => (i.zero, i.size, i.bytes)) = some (some (.int k 0), 1, bytes)) (hb0 : 0 < bytes)
  (v u : Value) (xs ys : List Int) (F : List Nat) (hs : a.eval s = v) (hx : a.eval x = u) (HO : (Od.int k).O e W F v xs) (HR : RK (Kd.int k) W u ys) (hl : (xs.length + ys.length) * bytes ≤ 140737488355328)
  (h : ∀ v1 w1 F1, (Od.int k).O e w1 F1 v1 (xs ++ ys) → F1.Nodup → (∀ k ∈ F1, k ∈ F ∨ W.heap.size ≤ k) → Chg F W w1 → wpList P ops Q rest (a.put o.dst v1) w1) :
  wpList P ops Q (o :: rest) a W := by
 obtain ⟨hr, rfl⟩ := O_int_row HO
 obtain ⟨A, c, rfl, hc, hC⟩ := HR
 refine print_append_row (w0 := W) 0 hgd s x t e k bytes ho ht hinfo hb0 v xs ys A ys.length c hs hx hr (reads_of_C hC) (Below.refl 0 W) (Nat.zero_le _) hl ?_
 intro v1 w1 hown _ hg hat
 refine h v1 w1 v1.ownBlock.toList (O_int k hown rfl) (by cases v1.ownBlock <;> simp) (fun k hk => ?_) (Chg.of_grown hg)
 have hk' : v1.ownBlock = some k := by simpa using hk
 rcases hat with hat | ⟨b, hb, hge⟩
 ·exact .inl (by rw [← hat]; exact hk)
 ·rw [hb] at hk'; cases hk'; exact .inr hge
end
end Fp
namespace FpStep
open Go.RowKit Go.Proofs.YtggmifnblcjdfaaGreatW.PrintWords Fp
section
variable {α : Type} {d : Od α} {e : TypeId} {W w1 : World} {v v1 : Value} {xs : List α} {y : α} {G : List Nat} {cs ys : List Value} {Fs : List (List Nat)}
theorem append_core (hr : W.ownsRow 0 e d.sz v xs.length cs) (hlf : Fs.length = xs.length) (hM : ∀ (j : Nat) (x : α) (G : List Nat), xs[j]? = some x → Fs[j]? = some G → d.M W G x (seg d.sz j cs))
  (hnd : (v.ownBlock.toList ++ Fs.flatten).Nodup) (hy : d.M W G y ys) (nG : G.Nodup) (dG : ∀ k ∈ G, k ∉ v.ownBlock.toList ++ Fs.flatten)
  (hown : w1.ownsRow 0 e d.sz v1 (xs.length + 1) (cs ++ ys)) (hg : W.grownBy w1 v.ownBlock) (hat : v1.ownBlock = v.ownBlock ∨ ∃ b, v1.ownBlock = some b ∧ W.heap.size ≤ b) :
  ∃ F1, d.O e w1 F1 v1 (xs ++ [y]) ∧ F1.Nodup ∧ (∀ k ∈ F1, k ∈ v.ownBlock.toList ++ Fs.flatten ∨ k ∈ G ∨ W.heap.size ≤ k) ∧ Chg (v.ownBlock.toList ++ Fs.flatten) W w1 := by
 have HO : d.O e W (v.ownBlock.toList ++ Fs.flatten) v xs := ⟨cs, Fs, hr, hlf, rfl, hM⟩
 have hmem := mem_own HO
 have hltF := O_lt HO
 have hltG := d.M_lt hy
 rw [List.nodup_append] at hnd
 obtain ⟨_, nF, dO⟩ := hnd
 have hmv : ∀ k, k < W.heap.size → v.ownBlock ≠ some k → w1.heap[k]? = W.heap[k]? := fun k hk hne => hg.block k hk (fun e => hne e.symm)
 refine ⟨v1.ownBlock.toList ++ (Fs ++ [G]).flatten, ⟨cs ++ ys, Fs ++ [G], by simpa using hown, by simp [hlf], rfl, fun j z' H hz' hH => ?_⟩, ?_, (fun k hk => ?_), ((Chg.of_grown hg).mono (fun k hk => List.mem_append_left _ hk))⟩
 ·rcases Nat.lt_or_ge j xs.length with hj | hj
  ·rw [List.getElem?_append_left hj] at hz'
   rw [List.getElem?_append_left (by omega)] at hH
   have e1 : seg d.sz j (cs ++ ys) = seg d.sz j cs := by
    unfold seg
    have h1 : (j + 1) * d.sz ≤ xs.length * d.sz := Nat.mul_le_mul_right _ hj
    rw [Nat.succ_mul] at h1
    have h2 := hr.1
    rw [List.drop_append_of_le_length (by omega), List.take_append_of_le_length (by rw [List.length_drop]; omega)]
   rw [e1]
   refine d.M_move (hM j z' H hz' hH) (fun k hk => hmv k (d.M_lt (hM j z' H hz' hH) k hk) (fun e2 => ?_))
   exact dO k (by rw [e2]; simp) k (List.mem_flatten.2 ⟨H, List.mem_of_getElem? hH, hk⟩) rfl
  ·have hj' : j = xs.length := by
    have := (List.getElem?_eq_some_iff.1 hz').1
    simp at this; omega
   subst hj'
   have e1 : y = z' := by simpa using hz'
   have e2 : G = H := by rw [← hlf] at hH; simpa using hH
   subst e1 e2
   have e3 : seg d.sz xs.length (cs ++ ys) = ys := by
    unfold seg
    rw [← hr.1, List.drop_left, List.take_of_length_le (by rw [d.M_len hy]; exact Nat.le_refl _)]
   rw [e3]
   exact d.M_move hy (fun k hk => hmv k (hltG k hk) (fun e2 => dG k hk (by rw [e2]; simp)))
 ·rw [List.flatten_append, List.flatten_cons, List.flatten_nil, List.append_nil, List.nodup_append, List.nodup_append]
  have hv1 : ∀ k, k ∈ v1.ownBlock.toList → v.ownBlock = some k ∨ W.heap.size ≤ k := by
   intro k hk
   have hk' : v1.ownBlock = some k := by simpa using hk
   rcases hat with hat | ⟨b, hb, hge⟩
   ·exact .inl (by rw [← hat]; exact hk')
   ·rw [hb] at hk'; cases hk'; exact .inr hge
  refine ⟨by cases v1.ownBlock <;> simp, ⟨nF, nG, fun a ha b hb e => dG b hb (by rw [← e]; exact List.mem_append_right _ ha)⟩, fun a ha b hb e => ?_⟩
  subst e
  rcases hv1 a ha with h1 | h1
  ·rcases List.mem_append.1 hb with hb | hb
   ·exact dO a (by rw [h1]; simp) a hb rfl
   ·exact dG a hb (by rw [h1]; simp)
  ·rcases List.mem_append.1 hb with hb | hb
   ·have := hltF a (List.mem_append_right _ hb); omega
   ·have := hltG a hb; omega
 ·rcases List.mem_append.1 hk with hk | hk
  ·have hk' : v1.ownBlock = some k := by simpa using hk
   rcases hat with hat | ⟨b, hb, hge⟩
   ·exact .inl (hmem k (by rw [← hat]; exact hk'))
   ·rw [hb] at hk'; cases hk'; exact .inr (.inr hge)
  ·rw [List.flatten_append, List.flatten_cons, List.flatten_nil, List.append_nil] at hk
   rcases List.mem_append.1 hk with hk | hk
   ·exact .inl (List.mem_append_right _ hk)
   ·exact .inr (.inl hk)
end
theorem step_of_list {P : Program} {ops : Array Oper} {o : Oper} {a : Act} {K : Act → World → Prop} {Q : Exit → Act → World → Prop} {E : Prop} {W : World} (hgd : o.guard = none)
  (h : ∀ Q' : Exit → Act → World → Prop, (∀ a w, K a w → Q' .normal a w) → wpList P ops Q' [o] a W) : if Region.wanted o (yielded ops a.tmps) = true then Oper.wp P o a W K Q else E := by
 have hw : Region.wanted o (yielded ops a.tmps) = true := by simp [Region.wanted, hgd]
 rw [if_pos hw]
 have h1 := h (fun e a w => match e with | .normal => K a w | .panic c => Q (.panic c) a w | _ => False) (fun _ _ h => h)
 simp only [wpList, hw, if_true] at h1
 rcases h1 with h1 | ⟨_, a', w', h1⟩
 ·unfold Oper.wp at *
  generalize (execOp a.eval o).run P W = r at *
  cases r with
  | ok n w' =>
   cases n <;> simp only [Oper.upon] at h1 ⊢ <;>
    first
     | exact h1
     | exact Calls.mono h1 (fun e w'' he => by
       cases e
       ·exact he
       ·exact he
       ·obtain ⟨_, _, h2⟩ := he; exact h2.elim)
  | halt x w' => cases x <;> simp only [Oper.upon] at h1 ⊢ <;> exact h1
 ·exact h1.elim
theorem step_append_O {α : Type} (d : Od α) {P : Program} {ops : Array Oper} {o : Oper} {a : Act} {K : Act → World → Prop} {Q : Exit → Act → World → Prop} {E : Prop} {Wd : World} (W : World) (nd : Nat)
  (hgd : o.guard = none) (s x : Operand) (t e : TypeId) (z : Value) (bytes : Nat)
  (ho : o.op = .call { callee := .builtin .append, args := #[s, x], argTypes := #[t, t] })
  (ht : P.underlying t = some (.slice e)) (hinfo : (P.info? e).map (fun i => (i.zero, i.size, i.bytes)) = some (some z, d.sz, bytes)) (hz : z.cells.size = d.sz) (hs0 : 0 < d.sz) (hb0 : 0 < bytes)
  (v : Value) (xs : List α) (F : List Nat) (y : α) (G : List Nat) (ys : List Value) (hW : Wd = (W.alloc (.cells ys.toArray e)).drewN nd) (hs : a.eval s = v) (hx : a.eval x = .slice (some ⟨W.heap.size, 0, none⟩) 1 1)
  (HO : d.O e W F v xs) (hnd : F.Nodup) (hy : d.M W G y ys) (nG : G.Nodup) (dG : ∀ k ∈ G, k ∉ F) (hl : (xs.length + 1) * bytes ≤ 140737488355328)
  (h : ∀ g cap w1 F1, d.O e w1 F1 (.slice (some ⟨g, 0, none⟩) (xs.length + 1) cap) (xs ++ [y]) → F1.Nodup → (∀ k ∈ F1, k ∈ F ∨ k ∈ G ∨ W.heap.size ≤ k) → Chg F W w1 → K (a.put o.dst (.slice (some ⟨g, 0, none⟩) (xs.length + 1) cap)) w1) :
  if Region.wanted o (yielded ops a.tmps) = true then Oper.wp P o a Wd K Q else E := by
 subst hW
 obtain ⟨cs, Fs, hr, hlf, rfl, hM⟩ := HO
 obtain ⟨i0, hi, hzz⟩ := Option.map_eq_some_iff.1 hinfo
 simp only [Prod.mk.injEq] at hzz
 obtain ⟨hz0, hz1, hz2⟩ := hzz
 have hlen : xs.length + 1 ≤ 140737488355328 := Nat.le_trans (Nat.le_mul_of_pos_right _ hb0) hl
 have hown0 : ((W.alloc (.cells ys.toArray e)).drewN nd).ownsRow 0 e d.sz v xs.length cs := hr.alloc _
 refine step_append_lies ((W.alloc (.cells ys.toArray e)).drewN nd) hgd s x t ho 0 e i0 z d.sz bytes ht hi hz0 hz1 hz2 hz hs0 v xs.length cs hs hown0 ⟨W.heap.size, 0, none⟩ 1 1 ys hx (by rw [d.M_len hy]; simp)
  (by
   have := World.news_of_block (w := (W.alloc (.cells ys.toArray e)).drewN nd) (cs := ys.toArray) (t := e) (fr := (0, 0)) (B := W.heap.size) (heap_alloc_new W (.cells ys.toArray e))
   simpa using this) (d.M_one hy) (by omega) (by simp only [maxLen]; omega) hl (Nat.zero_le _) _ rfl ?_
 intro g cap w1 hown hg hat _
 have hg2 : W.grownBy w1 v.ownBlock := World.grownBy.trans (World.grownBy_alloc W _ _) ⟨hg.os, hg.tape, hg.output, hg.size, hg.block⟩
 obtain ⟨F1, k1, k2, k3, k4⟩ := append_core hr hlf hM hnd hy nG dG hown hg2 (by
  rcases hat with hat | hat
  ·exact .inl hat.symm
  ·exact .inr ⟨g, rfl, by rw [hat]; simp⟩)
 exact h g cap w1 F1 k1 k2 k3 k4
end FpStep
namespace RJ
open Go
section
variable {P : Program} {ops : Array Oper} {Q : Exit → Act → World → Prop} {md : Region.Mode} {S : World → Prop} {T : List Nat}
def wpAnyJ (P : Program) (md : Region.Mode) (ops : Array Oper) (Q : Exit → Act → World → Prop) (S : World → Prop) (T : List Nat) : Nat → Array Bool → Act → World → Prop
 | 0, listed, a, w => Region.ready md ops listed = [] ∧ Q .normal a w
 | fuel + 1, listed, a, w =>
  (Region.ready md ops listed = [] → Q .normal a w) ∧
  ∀ i ∈ Region.ready md ops listed, wpOp P ops Q i (fun a' w' => (T.contains i = false → S w') ∧ wpAnyJ P md ops Q S T fuel (listed.setIfInBounds i true) a' w') a w
theorem wpAny_of_J : ∀ (fuel : Nat) (listed : Array Bool) (a : Act) (w : World), wpAnyJ P md ops Q S T fuel listed a w → wpAny P md ops Q fuel listed a w
 | 0, _, _, _, h => h
 | fuel + 1, _, _, _, h => ⟨h.1, fun i hi => wpOp_mono (fun a' w' h' => wpAny_of_J fuel _ a' w' h'.2) (h.2 i hi)⟩
theorem wpAnyJ_first {i : Nat} {oi : Oper} {v : Value} (hi : ops[i]? = some oi) (hsel : ∀ (j : Nat) (o : Oper) cs b, ops[j]? = some o → o.op ≠ .select cs b)
  (hQ : ∀ c a w, Q (.panic c) (a.put oi.dst v) w → Q (.panic c) a w) (hT : ∀ j, T.contains j = true → Region.waitsFor md ops j i = true) :
  ∀ (fuel : Nat) (listed : Array Bool) (a : Act) (w : World),
   (∀ j oj, ops[j]? = some oj → j ≠ i → listed.getD j true = false → (∀ e ∈ oj.after, Region.binds md e = true → e.on ≠ i) → oi.apart ops oj = true) →
   i ∈ Region.ready md ops listed → YieldsIf P ops S oi v a → S w →
   wpAnyJ P md ops Q S T fuel (listed.setIfInBounds i true) (a.put oi.dst v) w → wpAnyJ P md ops Q S T (fuel + 1) listed a w := by
 intro fuel
 induction fuel with
 | zero =>
  intro listed a w _ hr hy hS H
  refine ⟨fun h => (by rw [h] at hr; cases hr), fun j hj => ?_⟩
  by_cases hji : j = i
  ·subst hji; exact hy.wpOp hi hS ⟨fun _ => hS, H⟩
  ·have := ready_mono hj hji
   rw [H.1] at this
   cases this
 | succ fuel ih =>
  intro listed a w hfree hr hy hS H
  refine ⟨fun h => (by rw [h] at hr; cases hr), fun j hj => ?_⟩
  by_cases hji : j = i
  ·subst hji; exact hy.wpOp hi hS ⟨fun _ => hS, H⟩
  ·have h1 := H.2 j (ready_mono hj hji)
   obtain ⟨hjun, oj, hoj, hall⟩ := mem_ready.1 hj
   have hnot : ∀ e ∈ oj.after, Region.binds md e = true → e.on ≠ i := fun e he hb heq => by
    have h1 := hall e he hb
    have h0 := (mem_ready.1 hr).1
    rw [heq] at h1
    rcases Nat.lt_or_ge i listed.size with h' | h'
    ·simp [h'] at h0 h1; rw [h0] at h1; cases h1
    ·simp [Array.getElem?_eq_none h'] at h1
   have hTj : T.contains j = false := by
    by_cases hc : T.contains j = true
    ·obtain ⟨o2, ho2, e, he, hb, hon⟩ := Region.waitsFor_spec (hT j hc)
     have : o2 = oj := Option.some.inj (ho2.symm.trans hoj)
     subst this
     exact absurd hon (hnot e he hb)
    ·simpa using hc
   have h2 := wpOp_putIf hoj (hfree j oj hoj hji hjun hnot) (fun cs b => hsel i oi cs b hi) (fun cs b => hsel j oj cs b hoj) hQ hy h1
   have hfree' : ∀ k ok, ops[k]? = some ok → k ≠ i → (listed.setIfInBounds j true).getD k true = false →
     (∀ e ∈ ok.after, Region.binds md e = true → e.on ≠ i) → oi.apart ops ok = true := fun k ok hk hki hun hno => by
    refine hfree k ok hk hki ?_ hno
    by_cases hjk : j = k
    ·subst hjk; exact hjun
    ·rw [getD_set_ne true hjk] at hun; exact hun
   refine wpOp_mono (fun a' w' h3 => ⟨h3.2.1, ih (listed.setIfInBounds j true) a' w' hfree' (ready_mono hr (Ne.symm hji)) h3.1 (h3.2.1 hTj) ?_⟩) h2
   rw [Array.setIfInBounds_comm _ _ hji]
   exact h3.2.2
def wpSeqJ (P : Program) (ops : Array Oper) (Q : Exit → Act → World → Prop) (S : World → Prop) (T : List Nat) : List (Nat × Bool) → Act → World → Prop
 | [], a, w => Q .normal a w
 | (i, true) :: r, a, w => S w ∧ ∃ o v, ops[i]? = some o ∧ (∀ c a w, Q (.panic c) (a.put o.dst v) w → Q (.panic c) a w) ∧ YieldsIf P ops S o v a ∧ wpSeqJ P ops Q S T r (a.put o.dst v) w
 | (i, false) :: r, a, w => wpOp P ops Q i (fun a' w' => (T.contains i = false → S w') ∧ wpSeqJ P ops Q S T r a' w') a w
def seqJB (md : Region.Mode) (ops : Array Oper) (T : List Nat) : List (Nat × Bool) → Array Bool → Bool
 | [], listed => (Region.ready md ops listed).isEmpty
 | (i, true) :: r, listed => (Region.ready md ops listed).contains i && Region.free md ops listed i && T.all (fun j => Region.waitsFor md ops j i) && seqJB md ops T r (listed.setIfInBounds i true)
 | (i, false) :: r, listed => decide (Region.ready md ops listed = [i]) && seqJB md ops T r (listed.setIfInBounds i true)
theorem anyJ_of_seq (hs : Region.noSelect ops = true) : ∀ (sched : List (Nat × Bool)) (listed : Array Bool) (a : Act) (w : World), seqJB md ops T sched listed = true → wpSeqJ P ops Q S T sched a w → wpAnyJ P md ops Q S T sched.length listed a w
 | [], listed, a, w, hB, h => ⟨by simpa [seqJB] using hB, h⟩
 | (i, true) :: r, listed, a, w, hB, h => by
  obtain ⟨hS, o, v, hi, hQ, hy, h'⟩ := h
  simp only [seqJB, Bool.and_eq_true] at hB
  obtain ⟨⟨⟨hr, hf⟩, hT⟩, hB'⟩ := hB
  refine wpAnyJ_first hi (Region.noSelect_spec hs) hQ (fun j hj => ?_) r.length listed a w (Region.free_spec hi hf) (by simpa using hr) hy hS (anyJ_of_seq hs r _ _ _ hB' h')
  exact List.all_eq_true.1 hT j (by simpa using hj)
 | (i, false) :: r, listed, a, w, hB, h => by
  simp only [seqJB, Bool.and_eq_true, decide_eq_true_eq] at hB
  refine ⟨fun h1 => (by rw [hB.1] at h1; cases h1), fun j hj => ?_⟩
  rw [hB.1] at hj
  have hji : j = i := by simpa using hj
  subst hji
  exact wpOp_mono (fun a' w' h' => ⟨h'.1, anyJ_of_seq hs r _ a' w' hB.2 h'.2⟩) h
theorem wp_region_seq {id : Nat} {a : Act} {w : World} (S : World → Prop) (T : List Nat) (sched : List (Nat × Bool)) (hm : P.follows .mixedOrders = true)
  (hB : (Region.noSelect ops && decide (sched.length = ops.size) && seqJB .any ops T sched (Array.replicate ops.size false)) = true)
  (h : wpSeqJ P ops Q S T sched a w.drew) : (Code.region id ops true).wp P Q a w := by
 simp only [Bool.and_eq_true, decide_eq_true_eq] at hB
 obtain ⟨⟨hs, hl⟩, hB'⟩ := hB
 have h1 := anyJ_of_seq (md := .any) hs sched _ _ _ hB' h
 rw [hl] at h1
 exact wp_region_any hm (wpAny_of_J _ _ _ _ h1)
theorem seq_take {i : Nat} {r : List (Nat × Bool)} {a : Act} {w : World} {o : Oper} {v : Value} (hS : S w) (hi : ops[i]? = some o) (hQ : ∀ c a w, Q (.panic c) (a.put o.dst v) w → Q (.panic c) a w) (hw : Region.wanted o (yielded ops a.tmps) = true)
  (hy : ∀ w, S w → (execOp a.eval o).run P w = .ok (.value v) w) (h : wpSeqJ P ops Q S T r (a.put o.dst v) w) : wpSeqJ P ops Q S T ((i, true) :: r) a w :=
 ⟨hS, o, v, hi, hQ, .inl ⟨hw, hy⟩, h⟩
structure Next_ (K K' : Act → World → Prop) : Prop where
 out : ∀ a w, K' a w → K a w
theorem seq_step {i : Nat} {r : List (Nat × Bool)} {a : Act} {w : World} {o : Oper} (hi : ops[i]? = some o)
  (h : ∀ K : Act → World → Prop, Next_ K (fun a' w' => (T.contains i = false → S w') ∧ wpSeqJ P ops Q S T r a' w') → if Region.wanted o (yielded ops a.tmps) = true then o.wp P a w K Q else K (a.put o.dst undef) w) : wpSeqJ P ops Q S T ((i, false) :: r) a w := by
 have h1 := h _ ⟨fun _ _ h => h⟩
 show wpOp P ops Q i _ a w
 unfold wpOp
 simp only [hi]
 split
 ·rename_i hw
  rw [if_pos hw] at h1
  exact .inl h1
 ·rename_i hw
  rw [if_neg hw] at h1
  exact h1
theorem seq_done {a : Act} {w : World} (h : Q .normal a w) : wpSeqJ P ops Q S T [] a w := h
end
end RJ
namespace RP
open Go RJ
section
variable {P : Program} {ops : Array Oper} {Q : Exit → Act → World → Prop} {md : Region.Mode} {S : World → Prop} {T : List Nat}
def wpAnyP (P : Program) (md : Region.Mode) (ops : Array Oper) (Q : Exit → Act → World → Prop) (S : World → Prop) (T : List Nat) : Nat → Array Bool → Act → World → Prop
 | 0, listed, a, w => Region.ready md ops listed = [] ∧ Q .normal a w
 | fuel + 1, listed, a, w =>
  (Region.ready md ops listed = [] → Q .normal a w) ∧
  ∀ i ∈ Region.ready md ops listed, wpOp P ops Q i (fun a' w' => (T.contains i = false → S w → S w') ∧ wpAnyP P md ops Q S T fuel (listed.setIfInBounds i true) a' w') a w
theorem wpAny_of_P : ∀ (fuel : Nat) (listed : Array Bool) (a : Act) (w : World), wpAnyP P md ops Q S T fuel listed a w → wpAny P md ops Q fuel listed a w
 | 0, _, _, _, h => h
 | fuel + 1, _, _, _, h => ⟨h.1, fun i hi => wpOp_mono (fun a' w' h' => wpAny_of_P fuel _ a' w' h'.2) (h.2 i hi)⟩
theorem wpAnyP_first {i : Nat} {oi : Oper} {v : Value} (hi : ops[i]? = some oi) (hsel : ∀ (j : Nat) (o : Oper) cs b, ops[j]? = some o → o.op ≠ .select cs b)
  (hQ : ∀ c a w, Q (.panic c) (a.put oi.dst v) w → Q (.panic c) a w) (hT : ∀ j, T.contains j = true → Region.waitsFor md ops j i = true) :
  ∀ (fuel : Nat) (listed : Array Bool) (a : Act) (w : World),
   (∀ j oj, ops[j]? = some oj → j ≠ i → listed.getD j true = false → (∀ e ∈ oj.after, Region.binds md e = true → e.on ≠ i) → oi.apart ops oj = true) →
   i ∈ Region.ready md ops listed → YieldsIf P ops S oi v a → S w →
   wpAnyP P md ops Q S T fuel (listed.setIfInBounds i true) (a.put oi.dst v) w → wpAnyP P md ops Q S T (fuel + 1) listed a w := by
 intro fuel
 induction fuel with
 | zero =>
  intro listed a w _ hr hy hS H
  refine ⟨fun h => (by rw [h] at hr; cases hr), fun j hj => ?_⟩
  by_cases hji : j = i
  ·subst hji; exact hy.wpOp hi hS ⟨fun _ h => h, H⟩
  ·have := ready_mono hj hji
   rw [H.1] at this
   cases this
 | succ fuel ih =>
  intro listed a w hfree hr hy hS H
  refine ⟨fun h => (by rw [h] at hr; cases hr), fun j hj => ?_⟩
  by_cases hji : j = i
  ·subst hji; exact hy.wpOp hi hS ⟨fun _ h => h, H⟩
  ·have h1 := H.2 j (ready_mono hj hji)
   obtain ⟨hjun, oj, hoj, hall⟩ := mem_ready.1 hj
   have hnot : ∀ e ∈ oj.after, Region.binds md e = true → e.on ≠ i := fun e he hb heq => by
    have h1 := hall e he hb
    have h0 := (mem_ready.1 hr).1
    rw [heq] at h1
    rcases Nat.lt_or_ge i listed.size with h' | h'
    ·simp [h'] at h0 h1; rw [h0] at h1; cases h1
    ·simp [Array.getElem?_eq_none h'] at h1
   have hTj : T.contains j = false := by
    by_cases hc : T.contains j = true
    ·obtain ⟨o2, ho2, e, he, hb, hon⟩ := Region.waitsFor_spec (hT j hc)
     have : o2 = oj := Option.some.inj (ho2.symm.trans hoj)
     subst this
     exact absurd hon (hnot e he hb)
    ·simpa using hc
   have h2 := wpOp_putIf hoj (hfree j oj hoj hji hjun hnot) (fun cs b => hsel i oi cs b hi) (fun cs b => hsel j oj cs b hoj) hQ hy h1
   have hfree' : ∀ k ok, ops[k]? = some ok → k ≠ i → (listed.setIfInBounds j true).getD k true = false →
     (∀ e ∈ ok.after, Region.binds md e = true → e.on ≠ i) → oi.apart ops ok = true := fun k ok hk hki hun hno => by
    refine hfree k ok hk hki ?_ hno
    by_cases hjk : j = k
    ·subst hjk; exact hjun
    ·rw [getD_set_ne true hjk] at hun; exact hun
   refine wpOp_mono (fun a' w' h3 => ⟨h3.2.1, ih (listed.setIfInBounds j true) a' w' hfree' (ready_mono hr (Ne.symm hji)) h3.1 (h3.2.1 hTj hS) ?_⟩) h2
   rw [Array.setIfInBounds_comm _ _ hji]
   exact h3.2.2
theorem wpAnyP_pure {i : Nat} {oi : Oper} {v : Value} (hi : ops[i]? = some oi) (hsel : ∀ (j : Nat) (o : Oper) cs b, ops[j]? = some o → o.op ≠ .select cs b)
  (hQ : ∀ c a w, Q (.panic c) (a.put oi.dst v) w → Q (.panic c) a w) :
  ∀ (fuel : Nat) (listed : Array Bool) (a : Act) (w : World),
   (∀ j oj, ops[j]? = some oj → j ≠ i → listed.getD j true = false → (∀ e ∈ oj.after, Region.binds md e = true → e.on ≠ i) → oi.apart ops oj = true) →
   i ∈ Region.ready md ops listed → YieldsIf P ops (fun _ => True) oi v a →
   wpAnyP P md ops Q S T fuel (listed.setIfInBounds i true) (a.put oi.dst v) w → wpAnyP P md ops Q S T (fuel + 1) listed a w := by
 intro fuel
 induction fuel with
 | zero =>
  intro listed a w _ hr hy H
  refine ⟨fun h => (by rw [h] at hr; cases hr), fun j hj => ?_⟩
  by_cases hji : j = i
  ·subst hji; exact hy.wpOp hi trivial ⟨fun _ h => h, H⟩
  ·have := ready_mono hj hji
   rw [H.1] at this
   cases this
 | succ fuel ih =>
  intro listed a w hfree hr hy H
  refine ⟨fun h => (by rw [h] at hr; cases hr), fun j hj => ?_⟩
  by_cases hji : j = i
  ·subst hji; exact hy.wpOp hi trivial ⟨fun _ h => h, H⟩
  ·have h1 := H.2 j (ready_mono hj hji)
   obtain ⟨hjun, oj, hoj, hall⟩ := mem_ready.1 hj
   have hnot : ∀ e ∈ oj.after, Region.binds md e = true → e.on ≠ i := fun e he hb heq => by
    have h1 := hall e he hb
    have h0 := (mem_ready.1 hr).1
    rw [heq] at h1
    rcases Nat.lt_or_ge i listed.size with h' | h'
    ·simp [h'] at h0 h1; rw [h0] at h1; cases h1
    ·simp [Array.getElem?_eq_none h'] at h1
   have h2 := wpOp_putIf hoj (hfree j oj hoj hji hjun hnot) (fun cs b => hsel i oi cs b hi) (fun cs b => hsel j oj cs b hoj) hQ hy h1
   have hfree' : ∀ k ok, ops[k]? = some ok → k ≠ i → (listed.setIfInBounds j true).getD k true = false →
     (∀ e ∈ ok.after, Region.binds md e = true → e.on ≠ i) → oi.apart ops ok = true := fun k ok hk hki hun hno => by
    refine hfree k ok hk hki ?_ hno
    by_cases hjk : j = k
    ·subst hjk; exact hjun
    ·rw [getD_set_ne true hjk] at hun; exact hun
   refine wpOp_mono (fun a' w' h3 => ⟨h3.2.1, ih (listed.setIfInBounds j true) a' w' hfree' (ready_mono hr (Ne.symm hji)) h3.1 ?_⟩) h2
   rw [Array.setIfInBounds_comm _ _ hji]
   exact h3.2.2
def wpSeqP (P : Program) (ops : Array Oper) (Q : Exit → Act → World → Prop) (S : World → Prop) (T : List Nat) : List (Nat × Nat) → Act → World → Prop
 | [], a, w => Q .normal a w
 | (i, 1) :: r, a, w => S w ∧ ∃ o v, ops[i]? = some o ∧ (∀ c a w, Q (.panic c) (a.put o.dst v) w → Q (.panic c) a w) ∧ YieldsIf P ops S o v a ∧ wpSeqP P ops Q S T r (a.put o.dst v) w
 | (i, 2) :: r, a, w => ∃ o v, ops[i]? = some o ∧ (∀ c a w, Q (.panic c) (a.put o.dst v) w → Q (.panic c) a w) ∧ YieldsIf P ops (fun _ => True) o v a ∧ wpSeqP P ops Q S T r (a.put o.dst v) w
 | (i, _) :: r, a, w => wpOp P ops Q i (fun a' w' => (T.contains i = false → S w → S w') ∧ wpSeqP P ops Q S T r a' w') a w
def seqPB (md : Region.Mode) (ops : Array Oper) (T : List Nat) : List (Nat × Nat) → Array Bool → Bool
 | [], listed => (Region.ready md ops listed).isEmpty
 | (i, 1) :: r, listed => (Region.ready md ops listed).contains i && Region.free md ops listed i && T.all (fun j => Region.waitsFor md ops j i) && seqPB md ops T r (listed.setIfInBounds i true)
 | (i, 2) :: r, listed => (Region.ready md ops listed).contains i && Region.free md ops listed i && seqPB md ops T r (listed.setIfInBounds i true)
 | (i, _) :: r, listed => decide (Region.ready md ops listed = [i]) && seqPB md ops T r (listed.setIfInBounds i true)
theorem anyP_of_seq (hs : Region.noSelect ops = true) : ∀ (sched : List (Nat × Nat)) (listed : Array Bool) (a : Act) (w : World), seqPB md ops T sched listed = true → wpSeqP P ops Q S T sched a w → wpAnyP P md ops Q S T sched.length listed a w
 | [], listed, a, w, hB, h => ⟨by simpa [seqPB] using hB, h⟩
 | (i, 1) :: r, listed, a, w, hB, h => by
  obtain ⟨hS, o, v, hi, hQ, hy, h'⟩ := h
  simp only [seqPB, Bool.and_eq_true] at hB
  obtain ⟨⟨⟨hr, hf⟩, hT⟩, hB'⟩ := hB
  refine wpAnyP_first hi (Region.noSelect_spec hs) hQ (fun j hj => ?_) r.length listed a w (Region.free_spec hi hf) (by simpa using hr) hy hS (anyP_of_seq hs r _ _ _ hB' h')
  exact List.all_eq_true.1 hT j (by simpa using hj)
 | (i, 2) :: r, listed, a, w, hB, h => by
  obtain ⟨o, v, hi, hQ, hy, h'⟩ := h
  simp only [seqPB, Bool.and_eq_true] at hB
  obtain ⟨⟨hr, hf⟩, hB'⟩ := hB
  exact wpAnyP_pure hi (Region.noSelect_spec hs) hQ r.length listed a w (Region.free_spec hi hf) (by simpa using hr) hy (anyP_of_seq hs r _ _ _ hB' h')
 | (i, 0) :: r, listed, a, w, hB, h => by
  simp only [seqPB, Bool.and_eq_true, decide_eq_true_eq] at hB
  refine ⟨fun h1 => (by rw [hB.1] at h1; cases h1), fun j hj => ?_⟩
  rw [hB.1] at hj
  have hji : j = i := by simpa using hj
  subst hji
  exact wpOp_mono (fun a' w' h' => ⟨h'.1, anyP_of_seq hs r _ a' w' hB.2 h'.2⟩) h
 | (i, n + 3) :: r, listed, a, w, hB, h => by
  simp only [seqPB, Bool.and_eq_true, decide_eq_true_eq] at hB
  refine ⟨fun h1 => (by rw [hB.1] at h1; cases h1), fun j hj => ?_⟩
  rw [hB.1] at hj
  have hji : j = i := by simpa using hj
  subst hji
  exact wpOp_mono (fun a' w' h' => ⟨h'.1, anyP_of_seq hs r _ a' w' hB.2 h'.2⟩) h
theorem wp_region_seqp {id : Nat} {a : Act} {w : World} (S : World → Prop) (T : List Nat) (sched : List (Nat × Nat)) (hm : P.follows .mixedOrders = true)
  (hB : (Region.noSelect ops && decide (sched.length = ops.size) && seqPB .any ops T sched (Array.replicate ops.size false)) = true)
  (h : wpSeqP P ops Q S T sched a w.drew) : (Code.region id ops true).wp P Q a w := by
 simp only [Bool.and_eq_true, decide_eq_true_eq] at hB
 obtain ⟨⟨hs, hl⟩, hB'⟩ := hB
 have h1 := anyP_of_seq (md := .any) hs sched _ _ _ hB' h
 rw [hl] at h1
 exact wp_region_any hm (wpAny_of_P _ _ _ _ h1)
theorem seqp_take {i : Nat} {r : List (Nat × Nat)} {a : Act} {w : World} {o : Oper} {v : Value} (hS : S w) (hi : ops[i]? = some o) (hQ : ∀ c a w, Q (.panic c) (a.put o.dst v) w → Q (.panic c) a w) (hw : Region.wanted o (yielded ops a.tmps) = true)
  (hy : ∀ w, S w → (execOp a.eval o).run P w = .ok (.value v) w) (h : wpSeqP P ops Q S T r (a.put o.dst v) w) : wpSeqP P ops Q S T ((i, 1) :: r) a w :=
 ⟨hS, o, v, hi, hQ, .inl ⟨hw, hy⟩, h⟩
theorem seqp_pure {i : Nat} {r : List (Nat × Nat)} {a : Act} {w : World} {o : Oper} {v : Value} (hi : ops[i]? = some o) (hQ : ∀ c a w, Q (.panic c) (a.put o.dst v) w → Q (.panic c) a w) (hw : Region.wanted o (yielded ops a.tmps) = true)
  (hy : ∀ w, (execOp a.eval o).run P w = .ok (.value v) w) (h : wpSeqP P ops Q S T r (a.put o.dst v) w) : wpSeqP P ops Q S T ((i, 2) :: r) a w :=
 ⟨o, v, hi, hQ, .inl ⟨hw, fun w _ => hy w⟩, h⟩
theorem seqp_step {i : Nat} {r : List (Nat × Nat)} {a : Act} {w : World} {o : Oper} (hi : ops[i]? = some o)
  (h : ∀ K : Act → World → Prop, Next_ K (fun a' w' => (T.contains i = false → S w → S w') ∧ wpSeqP P ops Q S T r a' w') → if Region.wanted o (yielded ops a.tmps) = true then o.wp P a w K Q else K (a.put o.dst undef) w) : wpSeqP P ops Q S T ((i, 0) :: r) a w := by
 have h1 := h _ ⟨fun _ _ h => h⟩
 show wpOp P ops Q i _ a w
 unfold wpOp
 simp only [hi]
 split
 ·rename_i hw
  rw [if_pos hw] at h1
  exact .inl h1
 ·rename_i hw
  rw [if_neg hw] at h1
  exact h1
theorem seqp_done {a : Act} {w : World} (h : Q .normal a w) : wpSeqP P ops Q S T [] a w := h
end
end RP
namespace RQ
open Go RJ RP
inductive Tr where
 | nil : Tr
 | s (i : Nat) (r : Tr) : Tr
 | t (i : Nat) (r : Tr) : Tr
 | p (i : Nat) (r : Tr) : Tr
 | alt (i : Nat) (ri : Tr) (r : Tr) : Tr
def Tr.len : Tr → Nat
 | .nil => 0
 | .s _ r => r.len + 1
 | .t _ r => r.len + 1
 | .p _ r => r.len + 1
 | .alt _ ri _ => ri.len + 1
def Tr.heads : Tr → List Nat
 | .s i _ => [i]
 | .alt i _ r => i :: r.heads
 | _ => []
section
variable {P : Program} {ops : Array Oper} {Q : Exit → Act → World → Prop} {md : Region.Mode} {S : World → Prop} {T : List Nat}
def wpTr (P : Program) (ops : Array Oper) (Q : Exit → Act → World → Prop) (S : World → Prop) (T : List Nat) : Tr → Act → World → Prop
 | .nil, a, w => Q .normal a w
 | .t i r, a, w => S w ∧ ∃ o v, ops[i]? = some o ∧ (∀ c a w, Q (.panic c) (a.put o.dst v) w → Q (.panic c) a w) ∧ YieldsIf P ops S o v a ∧ wpTr P ops Q S T r (a.put o.dst v) w
 | .p i r, a, w => ∃ o v, ops[i]? = some o ∧ (∀ c a w, Q (.panic c) (a.put o.dst v) w → Q (.panic c) a w) ∧ YieldsIf P ops (fun _ => True) o v a ∧ wpTr P ops Q S T r (a.put o.dst v) w
 | .s i r, a, w => wpOp P ops Q i (fun a' w' => (T.contains i = false → S w → S w') ∧ wpTr P ops Q S T r a' w') a w
 | .alt i ri r, a, w => wpOp P ops Q i (fun a' w' => (T.contains i = false → S w → S w') ∧ wpTr P ops Q S T ri a' w') a w ∧ wpTr P ops Q S T r a w
def trB (md : Region.Mode) (ops : Array Oper) (T : List Nat) : Tr → Bool → Array Bool → Bool
 | .nil, _, listed => (Region.ready md ops listed).isEmpty
 | .t i r, _, listed => (Region.ready md ops listed).contains i && Region.free md ops listed i && T.all (fun j => Region.waitsFor md ops j i) && trB md ops T r true (listed.setIfInBounds i true)
 | .p i r, _, listed => (Region.ready md ops listed).contains i && Region.free md ops listed i && trB md ops T r true (listed.setIfInBounds i true)
 | .s i r, b, listed => (!b || decide (Region.ready md ops listed = [i])) && trB md ops T r true (listed.setIfInBounds i true)
 | .alt i ri r, b, listed => (!b || (Region.ready md ops listed).all (fun k => (i :: r.heads).contains k) && !(Region.ready md ops listed).isEmpty) && decide (ri.len + 1 = r.len) && trB md ops T ri true (listed.setIfInBounds i true) && trB md ops T r false listed
theorem any_of_tr2 (hs : Region.noSelect ops = true) : ∀ (tr : Tr) (listed : Array Bool) (a : Act) (w : World),
  (trB md ops T tr true listed = true → wpTr P ops Q S T tr a w → wpAnyP P md ops Q S T tr.len listed a w) ∧
  (trB md ops T tr false listed = true → wpTr P ops Q S T tr a w → ∀ k ∈ tr.heads, wpOp P ops Q k (fun a' w' => (T.contains k = false → S w → S w') ∧ wpAnyP P md ops Q S T (tr.len - 1) (listed.setIfInBounds k true) a' w') a w) := by
 intro tr
 induction tr with
 | nil =>
  intro listed a w
  exact ⟨fun hB h => ⟨by simpa [trB] using hB, h⟩, fun _ _ k hk => by cases hk⟩
 | t i r ih =>
  intro listed a w
  refine ⟨fun hB h => ?_, fun _ _ k hk => by cases hk⟩
  obtain ⟨hS, o, v, hi, hQ, hy, h'⟩ := h
  simp only [trB, Bool.and_eq_true] at hB
  obtain ⟨⟨⟨hr, hf⟩, hT⟩, hB'⟩ := hB
  refine wpAnyP_first hi (Region.noSelect_spec hs) hQ (fun j hj => ?_) r.len listed a w (Region.free_spec hi hf) (by simpa using hr) hy hS ((ih _ _ _).1 hB' h')
  exact List.all_eq_true.1 hT j (by simpa using hj)
 | p i r ih =>
  intro listed a w
  refine ⟨fun hB h => ?_, fun _ _ k hk => by cases hk⟩
  obtain ⟨o, v, hi, hQ, hy, h'⟩ := h
  simp only [trB, Bool.and_eq_true] at hB
  obtain ⟨⟨hr, hf⟩, hB'⟩ := hB
  exact wpAnyP_pure hi (Region.noSelect_spec hs) hQ r.len listed a w (Region.free_spec hi hf) (by simpa using hr) hy ((ih _ _ _).1 hB' h')
 | s i r ih =>
  intro listed a w
  refine ⟨fun hB h => ?_, fun hB h k hk => ?_⟩
  ·simp only [trB, Bool.and_eq_true, Bool.not_true, Bool.false_or, decide_eq_true_eq] at hB
   refine ⟨fun h1 => (by rw [hB.1] at h1; cases h1), fun j hj => ?_⟩
   rw [hB.1] at hj
   have hji : j = i := by simpa using hj
   subst hji
   exact wpOp_mono (fun a' w' h' => ⟨h'.1, (ih _ _ _).1 hB.2 h'.2⟩) h
  ·have hki : k = i := by simpa [Tr.heads] using hk
   subst hki
   simp only [trB, Bool.and_eq_true] at hB
   exact wpOp_mono (fun a' w' h' => ⟨h'.1, (ih _ _ _).1 hB.2 h'.2⟩) h
 | alt i ri r ihi ihr =>
  intro listed a w
  have key : trB md ops T (.alt i ri r) false listed = true → wpTr P ops Q S T (.alt i ri r) a w → ∀ k ∈ (Tr.alt i ri r).heads, wpOp P ops Q k (fun a' w' => (T.contains k = false → S w → S w') ∧ wpAnyP P md ops Q S T ((Tr.alt i ri r).len - 1) (listed.setIfInBounds k true) a' w') a w := by
   intro hB h k hk
   simp only [trB, Bool.and_eq_true, decide_eq_true_eq] at hB
   rcases List.mem_cons.1 hk with rfl | hk
   ·exact wpOp_mono (fun a' w' h' => ⟨h'.1, (ihi _ _ _).1 hB.1.2 h'.2⟩) h.1
   ·refine wpOp_mono (fun a' w' h' => ⟨h'.1, ?_⟩) ((ihr _ _ _).2 hB.2 h.2 k hk)
    have hl := hB.1.1.2
    have h9 := h'.2
    rw [← hl] at h9
    exact h9
  refine ⟨fun hB h => ?_, key⟩
  simp only [trB, Bool.and_eq_true, Bool.not_true, Bool.false_or] at hB
  obtain ⟨⟨⟨⟨hr, hne⟩, hl⟩, hBi⟩, hBr⟩ := hB
  refine ⟨fun h1 => (by rw [h1] at hne; cases hne), fun j hj => ?_⟩
  have hjm := List.all_eq_true.1 hr j hj
  exact key (by simp only [trB, Bool.and_eq_true]; exact ⟨⟨⟨by rfl, hl⟩, hBi⟩, hBr⟩) h j (by simpa [Tr.heads] using hjm)
theorem any_of_tr (hs : Region.noSelect ops = true) (tr : Tr) (listed : Array Bool) (a : Act) (w : World) (hB : trB md ops T tr true listed = true) (h : wpTr P ops Q S T tr a w) : wpAnyP P md ops Q S T tr.len listed a w := (any_of_tr2 hs tr listed a w).1 hB h
theorem wp_region_tr {id : Nat} {a : Act} {w : World} (S : World → Prop) (T : List Nat) (tr : Tr) (hm : P.follows .mixedOrders = true)
  (hB : (Region.noSelect ops && decide (tr.len = ops.size) && trB .any ops T tr true (Array.replicate ops.size false)) = true)
  (h : wpTr P ops Q S T tr a w.drew) : (Code.region id ops true).wp P Q a w := by
 simp only [Bool.and_eq_true, decide_eq_true_eq] at hB
 obtain ⟨⟨hs, hl⟩, hB'⟩ := hB
 have h1 := any_of_tr (md := .any) hs tr _ _ _ hB' h
 rw [hl] at h1
 exact wp_region_any hm (wpAny_of_P _ _ _ _ h1)
theorem tr_take {i : Nat} {r : Tr} {a : Act} {w : World} {o : Oper} {v : Value} (hS : S w) (hi : ops[i]? = some o) (hQ : ∀ c a w, Q (.panic c) (a.put o.dst v) w → Q (.panic c) a w) (hw : Region.wanted o (yielded ops a.tmps) = true)
  (hy : ∀ w, S w → (execOp a.eval o).run P w = .ok (.value v) w) (h : wpTr P ops Q S T r (a.put o.dst v) w) : wpTr P ops Q S T (.t i r) a w :=
 ⟨hS, o, v, hi, hQ, .inl ⟨hw, hy⟩, h⟩
theorem tr_pure {i : Nat} {r : Tr} {a : Act} {w : World} {o : Oper} {v : Value} (hi : ops[i]? = some o) (hQ : ∀ c a w, Q (.panic c) (a.put o.dst v) w → Q (.panic c) a w) (hw : Region.wanted o (yielded ops a.tmps) = true)
  (hy : ∀ w, (execOp a.eval o).run P w = .ok (.value v) w) (h : wpTr P ops Q S T r (a.put o.dst v) w) : wpTr P ops Q S T (.p i r) a w :=
 ⟨o, v, hi, hQ, .inl ⟨hw, fun w _ => hy w⟩, h⟩
theorem tr_op {i : Nat} {r : Tr} {a : Act} {w : World} {o : Oper} (hi : ops[i]? = some o)
  (h : ∀ K : Act → World → Prop, Next_ K (fun a' w' => (T.contains i = false → S w → S w') ∧ wpTr P ops Q S T r a' w') → if Region.wanted o (yielded ops a.tmps) = true then o.wp P a w K Q else K (a.put o.dst undef) w) : wpOp P ops Q i (fun a' w' => (T.contains i = false → S w → S w') ∧ wpTr P ops Q S T r a' w') a w := by
 have h1 := h _ ⟨fun _ _ h => h⟩
 unfold wpOp
 simp only [hi]
 split
 ·rename_i hw
  rw [if_pos hw] at h1
  exact .inl h1
 ·rename_i hw
  rw [if_neg hw] at h1
  exact h1
theorem tr_step {i : Nat} {r : Tr} {a : Act} {w : World} {o : Oper} (hi : ops[i]? = some o)
  (h : ∀ K : Act → World → Prop, Next_ K (fun a' w' => (T.contains i = false → S w → S w') ∧ wpTr P ops Q S T r a' w') → if Region.wanted o (yielded ops a.tmps) = true then o.wp P a w K Q else K (a.put o.dst undef) w) : wpTr P ops Q S T (.s i r) a w := tr_op hi h
theorem tr_two {i : Nat} {ri r : Tr} {a : Act} {w : World} (hi : wpTr P ops Q S T (.s i ri) a w) (hj : wpTr P ops Q S T r a w) : wpTr P ops Q S T (.alt i ri r) a w := ⟨hi, hj⟩
theorem tr_done {a : Act} {w : World} (h : Q .normal a w) : wpTr P ops Q S T .nil a w := h
end
end RQ
namespace RP
open Go RJ
section
variable {P : Program} {ops : Array Oper} {Q : Exit → Act → World → Prop} {md : Region.Mode} {S : World → Prop} {T : List Nat}
theorem seqp_skip1 {i : Nat} {r : List (Nat × Nat)} {a : Act} {w : World} {o : Oper} (hS : S w) (hi : ops[i]? = some o) (hQ : ∀ c a w, Q (.panic c) (a.put o.dst undef) w → Q (.panic c) a w) (hw : Region.wanted o (yielded ops a.tmps) = false)
  (h : wpSeqP P ops Q S T r (a.put o.dst undef) w) : wpSeqP P ops Q S T ((i, 1) :: r) a w :=
 ⟨hS, o, undef, hi, hQ, .inr ⟨hw, rfl⟩, h⟩
theorem seqp_skip2 {i : Nat} {r : List (Nat × Nat)} {a : Act} {w : World} {o : Oper} (hi : ops[i]? = some o) (hQ : ∀ c a w, Q (.panic c) (a.put o.dst undef) w → Q (.panic c) a w) (hw : Region.wanted o (yielded ops a.tmps) = false)
  (h : wpSeqP P ops Q S T r (a.put o.dst undef) w) : wpSeqP P ops Q S T ((i, 2) :: r) a w :=
 ⟨o, undef, hi, hQ, .inr ⟨hw, rfl⟩, h⟩
theorem seqp_skip0 {i : Nat} {r : List (Nat × Nat)} {a : Act} {w : World} {o : Oper} (hi : ops[i]? = some o) (hw : Region.wanted o (yielded ops a.tmps) = false)
  (h : wpSeqP P ops Q S T r (a.put o.dst undef) w) : wpSeqP P ops Q S T ((i, 0) :: r) a w :=
 seqp_step hi (fun K hK => by rw [if_neg (by rw [hw]; decide)]; exact hK.out _ _ ⟨fun _ h => h, h⟩)
end
end RP
end Go.Proofs.YtggmifnblcjdfaaGreat
