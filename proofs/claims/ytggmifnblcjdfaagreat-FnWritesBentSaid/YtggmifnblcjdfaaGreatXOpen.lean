/- What comes in as an argument of a law (slices of slices, structs, structs in slices) is read as the print's kinds read it: by the argument's type, once for all worlds. -/
import Derived.Test.YtggmifnblcjdfaaGreatXWWords
import Derived.OpenShut
namespace Go.Proofs.YtggmifnblcjdfaaGreat.Open
open Go.RowKit Go.Proofs.YtggmifnblcjdfaaGreatW.PrintWords
set_option linter.unusedVariables false

structure TK (P : Program) {α : Type} (t : TypeId) (k : Kd α) (wf : α → Prop) : Prop where
  out : ∀ (H : Type) (enc : TypeId × Value → H) (W : World) (base : Nat) (sp : Nat → Bool) (held : Bool) (n : Nat) (cs : List Value) (d : DataW H) (ps : List MemPlace),
    DataW.trod enc P W base sp held n t cs = some (d, ps) → ∃ x, k.K W x cs ∧ wf x

theorem TK_int {P : Program} {t : TypeId} {ik : IntKind} (hu : P.underlying t = some (.int ik)) : TK P t (Kd.int ik) (fun x => (Lit.int ik x).wf = true) := by
  refine ⟨fun H enc W base sp held n cs d ps h => ?_⟩
  cases n with
  | zero => simp [DataW.trod] at h
  | succ n =>
    simp only [DataW.trod, hu] at h
    split at h <;> simp_all [Kd.int, Kd.scalar]


theorem mapM_get {α β : Type} {f : α → Option β} : ∀ {xs : List α} {ys : List β}, xs.mapM f = some ys → ys.length = xs.length ∧ ∀ (j : Nat) (x : α), xs[j]? = some x → ∃ y : β, ys[j]? = some y ∧ f x = some y
  | [], ys, h => by simp at h; subst h; simp
  | x :: xs, ys, h => by
    simp only [List.mapM_cons, Option.bind_eq_bind, Option.bind_eq_some_iff, Option.pure_def, Option.some.injEq] at h
    obtain ⟨y, hy, zs, hz, rfl⟩ := h
    obtain ⟨hl, hg⟩ := mapM_get hz
    refine ⟨by simp [hl], fun j x' hj => ?_⟩
    cases j with
    | zero => simp at hj; subst hj; exact ⟨y, rfl, hy⟩
    | succ j => simpa using hg j x' (by simpa using hj)

theorem all_get {α : Type} {R : Nat → α → Prop} : ∀ (n : Nat), (∀ j, j < n → ∃ x, R j x) → ∃ xs : List α, xs.length = n ∧ ∀ (j : Nat) (x : α), xs[j]? = some x → R j x
  | 0, _ => ⟨[], rfl, by simp⟩
  | n + 1, h => by
    obtain ⟨xs, hl, hx⟩ := all_get n (fun j hj => h j (by omega))
    obtain ⟨x, hr⟩ := h n (by omega)
    refine ⟨xs ++ [x], by simp [hl], fun j y hj => ?_⟩
    rcases Nat.lt_or_ge j n with hj' | hj'
    · rw [List.getElem?_append_left (by omega)] at hj
      exact hx j y hj
    · have hlt := (List.getElem?_eq_some_iff.1 hj).1
      simp at hlt
      obtain rfl : j = n := by omega
      have : x = y := by simpa [← hl] using hj
      exact this ▸ hr

theorem cells_get {W : World} {base : Nat} {a : Addr} {n : Nat} {c : List Value} (h : W.cells? base a n = some c) : c.length = n ∧ ∀ (i : Nat) (u : Value), c[i]? = some u → W.cell? (a.add i) = some u := by
  unfold World.cells? at h
  split at h
  · obtain ⟨hl, hg⟩ := mapM_get h
    refine ⟨by simpa using hl, fun i u hu => ?_⟩
    have hi : i < n := by have := (List.getElem?_eq_some_iff.1 hu).1; simp at hl; omega
    obtain ⟨y, h1, h2⟩ := hg i i (by simp [hi])
    rw [hu] at h1
    cases h1
    exact h2
  · cases h

theorem TK_slice {P : Program} {α : Type} {t e : TypeId} {k : Kd α} {wf : α → Prop} (hu : P.underlying t = some (.slice e)) (hc : P.cellsOf e = k.sz) (hk : TK P e k wf) (e' : Nat) :
    TK P t (Kd.slice e' k) (fun xs => xs.length ≤ maxLen ∧ ∀ x ∈ xs, wf x) := by
  refine ⟨fun H enc W base sp held n cs d ps h => ?_⟩
  cases n with
  | zero => simp [DataW.trod] at h
  | succ n =>
    simp only [DataW.trod, hu] at h
    split at h
    all_goals try (simp_all; done)
    · exact ⟨[], ⟨none, 0, rfl, Nat.le_refl _, rfl, by simp, by simp⟩, by simp⟩
    · rename_i e2 a len cap heq
      obtain rfl : e = e2 := by simpa using heq
      split at h
      · rename_i hle
        simp only [Option.bind_eq_some_iff, Option.map_eq_some_iff] at h
        obtain ⟨elems, he, _⟩ := h
        obtain ⟨hl, hg⟩ := mapM_get he
        have key : ∀ j, j < len → ∃ x, (∃ c : List Value, c.length = k.sz ∧ k.K W x c ∧ ∀ (i : Nat) (u : Value), c[i]? = some u → W.cell? (a.add (j * k.sz + i)) = some u) ∧ wf x := by
          intro j hj
          obtain ⟨y, _, hy⟩ := hg j j (by simp [hj])
          obtain ⟨c, hcs, hy⟩ := Option.bind_eq_some_iff.1 hy
          obtain ⟨x, hx, hw⟩ := hk.out H enc W base sp held n c y.1 y.2 hy
          refine ⟨x, ⟨c, k.K_len hx, hx, fun i u hu => ?_⟩, hw⟩
          rw [← add_add, ← hc]
          exact (cells_get hcs).2 i u hu
        obtain ⟨xs, hxl, hx⟩ := all_get len key
        subst hxl
        refine ⟨xs, ⟨some a, cap, rfl, hle.2.1, rfl, ?_, fun _ => ⟨a, rfl, fun j p hj => (hx j p hj).1⟩⟩, ?_, ?_⟩
        · have := hle.2.1; have := hle.2.2; unfold maxLen at this; omega
        · exact Nat.le_trans hle.2.1 hle.2.2
        · intro x hm
          obtain ⟨j, hj⟩ := List.getElem?_of_mem hm
          exact (hx j x hj).2
      · cases h






/-- An argument, opened: its cells are of the kind. -/
theorem TK.arg {P : Program} {α : Type} {t : TypeId} {k : Kd α} {wf : α → Prop} (hk : TK P t k wf) {H : Type} {enc : TypeId × Value → H} {W : World} {base : Nat} {sp : Nat → Bool} {held : Bool} {v : Value} {d : DataW H} {ps : List MemPlace}
    (h : DataW.Trod enc P W base sp held t v d ps) : ∃ x, k.K W x v.cells.toList ∧ wf x := by
  obtain ⟨n, hn⟩ := h
  exact hk.out H enc W base sp held n _ d ps hn

end Go.Proofs.YtggmifnblcjdfaaGreat.Open
