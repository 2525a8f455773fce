/- What is done to an array of its own, as plain values: an operation counted, a sector written, all synced. -/
import Derived.Test.YtggmifnblcjdfaaAKinds
import Derived.Test.YtggmifnblcjdfaaMVal
import Derived.Test.YtggmifnblcjdfaaLawLib
import Derived.Test.YtggmifnblcjdfaaAMark
namespace Go.Proofs.Ytggmifnblcjdfaa.AOpV
open Go.RowKit Go.Proofs.Ytggmifnblcjdfaa.MKinds Go.Proofs.Ytggmifnblcjdfaa.MRead Go.Proofs.Ytggmifnblcjdfaa.MPut Go.Proofs.Ytggmifnblcjdfaa.MHeld Go.Proofs.Ytggmifnblcjdfaa.MOk Go.Proofs.Ytggmifnblcjdfaa.MVal Go.Proofs.Ytggmifnblcjdfaa.LawLib Go.Proofs.Ytggmifnblcjdfaa.AKinds Go.Proofs.Ytggmifnblcjdfaa.AMark
set_option linter.unusedVariables false
set_option linter.unusedSimpArgs false
/-- A disk operation is counted. -/
def opV (a : ArrV) : ArrV := if a.down then a else if a.fuse = 0 then { a with down := true, fuse := -1 } else if 0 < a.fuse then { a with fuse := a.fuse - 1 } else a
def opB (a : ArrV) : Bool := !a.down && !(a.fuse == 0)
def setM (a : ArrV) (i : Nat) (m : MemV) : ArrV := { a with mems := a.mems.set i m }
/-- Disk i is turned by f, if it is there and the power is. -/
def turnV (a : ArrV) (i : Nat) (f : MemV → MemV) : ArrV := match a.mems[i]? with
  | some x => if x.failed then a else if opB a then setM (opV a) i (f x) else opV a
  | none => a
theorem opV_mems (a : ArrV) : (opV a).mems = a.mems := by unfold opV; split; rfl; split; rfl; split <;> rfl
theorem opV_dirty (a : ArrV) : (opV a).dirty = a.dirty := by unfold opV; split; rfl; split; rfl; split <;> rfl
theorem opB_down {a : ArrV} (h : a.down = true) : opB a = false ∧ opV a = a := by unfold opB opV; rw [h]; exact ⟨rfl, rfl⟩
theorem opV_down {a : ArrV} (h : a.down = false) : (opV a).down = !opB a := by
  unfold opV opB; rw [h]
  by_cases h0 : a.fuse = 0
  · simp [h0]
  · by_cases h1 : 0 < a.fuse
    · simp [h0, h1, h]
    · simp [h0, h1, h]
theorem turnV_down {a : ArrV} (h : a.down = true) (i : Nat) (f : MemV → MemV) : turnV a i f = a := by
  obtain ⟨h1, h2⟩ := opB_down h
  unfold turnV
  split
  · split
    · rfl
    · rw [h1, h2]; rfl
  · rfl
theorem turnV_len (a : ArrV) (i : Nat) (f : MemV → MemV) : (turnV a i f).mems.length = a.mems.length := by
  unfold turnV
  split
  · split
    · rfl
    · split
      · simp [setM, opV_mems]
      · rw [opV_mems]
  · rfl
theorem turnV_dirty (a : ArrV) (i : Nat) (f : MemV → MemV) : (turnV a i f).dirty = a.dirty := by
  unfold turnV
  split
  · split
    · rfl
    · split
      · simp [setM, opV_dirty]
      · rw [opV_dirty]
  · rfl
/-- What holds of the disks stays so. -/
theorem turnV_all {a : ArrV} {i : Nat} {f : MemV → MemV} {P : MemV → Prop} (h : ∀ m ∈ a.mems, P m) (hf : ∀ m, P m → P (f m)) : ∀ m ∈ (turnV a i f).mems, P m := by
  unfold turnV
  split
  · rename_i x hx
    split
    · exact h
    · split
      · intro m hm
        simp only [setM, opV_mems] at hm
        rcases List.mem_or_eq_of_mem_set hm with h1 | h1
        · exact h m h1
        · rw [h1]; exact hf x (h x (List.mem_of_getElem? hx))
      · rw [opV_mems]; exact h
  · exact h
theorem totMS_set {l : List MemV} {m x : MemV} : ∀ {i : Nat}, l[i]? = some x → totMS (l.set i m) + tot1 x = totMS l + tot1 m := by
  induction l with
  | nil => intro i h; simp at h
  | cons y l ih =>
    intro i h
    rcases i with _ | i
    · simp at h; subst h; simp only [List.set_cons_zero, totMS]; omega
    · simp at h; have := ih h; simp only [List.set_cons_succ, totMS]; omega
theorem turnV_tot {a : ArrV} {i : Nat} {f : MemV → MemV} {k : Nat} (hf : ∀ m, tot1 (f m) ≤ tot1 m + k) : totMS (turnV a i f).mems ≤ totMS a.mems + k := by
  unfold turnV
  split
  · rename_i x hx
    split
    · omega
    · split
      · simp only [setM, opV_mems]
        have := totMS_set (m := f x) hx
        have := hf x
        omega
      · rw [opV_mems]; omega
  · omega
theorem tot1_eq (m : MemV) : tot1 m = totM m + 1 := by unfold tot1 totM; omega
/-- The first i disks synced; all. -/
def syncN (a : ArrV) : Nat → ArrV
  | 0 => a
  | i + 1 => turnV (syncN a i) i flushV
def syncV (a : ArrV) : ArrV := syncN a a.mems.length
theorem syncN_len (a : ArrV) : ∀ i, (syncN a i).mems.length = a.mems.length
  | 0 => rfl
  | i + 1 => by rw [syncN, turnV_len, syncN_len a i]
theorem syncN_dirty (a : ArrV) : ∀ i, (syncN a i).dirty = a.dirty
  | 0 => rfl
  | i + 1 => by rw [syncN, turnV_dirty, syncN_dirty a i]
theorem syncN_stay {a : ArrV} {i : Nat} (h : (syncN a i).down = true) : ∀ d, syncN a (i + d) = syncN a i
  | 0 => rfl
  | d + 1 => by rw [← Nat.add_assoc, syncN, syncN_stay h d, turnV_down h]
theorem syncV_down {a : ArrV} {i : Nat} (h : (syncN a i).down = true) (hi : i ≤ a.mems.length) : syncV a = syncN a i := by
  have := syncN_stay h (a.mems.length - i)
  rwa [show i + (a.mems.length - i) = a.mems.length by omega] at this
theorem syncN_tot (a : ArrV) : ∀ i, totMS (syncN a i).mems ≤ totMS a.mems
  | 0 => Nat.le_refl _
  | i + 1 => by
    have h1 := syncN_tot a i
    have h2 := turnV_tot (a := syncN a i) (i := i) (f := flushV) (k := 0) (fun m => by rw [tot1_eq, tot1_eq]; have := flushV_tot m; omega)
    rw [syncN]; omega
theorem small_flush {m : MemV} (h : Small m) : Small (flushV m) := by
  obtain ⟨h1, h2, h3, h4, h5⟩ := h
  unfold flushV
  split
  · refine ⟨by simpa [foldPut_len] using h1, fun x hx => ?_, by simp, by simp, h5⟩
    have : ∀ (l : List (Int × List Int)) (secs : List (List Int)), (∀ x ∈ secs, x.length ≤ 16777216) → (∀ e ∈ l, e.2.length ≤ 16777216) → ∀ x ∈ l.foldl putW secs, x.length ≤ 16777216 := by
      intro l
      induction l with
      | nil => intro secs hs _ x hx; exact hs x hx
      | cons e l ih =>
        intro secs hs hl x hx
        rw [List.foldl_cons] at hx
        refine ih _ (fun y hy => ?_) (fun e' he' => hl e' (List.mem_cons_of_mem _ he')) x hx
        rcases List.mem_or_eq_of_mem_set hy with q | q
        · exact hs y q
        · rw [q]; exact hl e (List.mem_cons_self ..)
    exact this m.cache m.secs h2 h4 x hx
  · exact ⟨h1, h2, h3, h4, h5⟩
theorem small_write {m : MemV} {n : Int} {xs : List Int} (h : Small m) (hx : xs.length ≤ 16777216) : Small (writeV m n xs) := by
  obtain ⟨h1, h2, h3, h4, h5⟩ := h
  unfold writeV
  split
  · rename_i hc
    have hb : m.cache.length < 60 := by simp [canWrite] at hc; omega
    refine ⟨h1, h2, by simp; omega, fun e he => ?_, ?_⟩
    · rcases List.mem_append.1 he with q | q
      · exact h4 e q
      · simp at q; rw [q]; exact hx
    · have : (without m.bad n).length ≤ m.bad.length := List.length_filter_le _ _
      simp only; omega
  · exact ⟨h1, h2, h3, h4, h5⟩
end Go.Proofs.Ytggmifnblcjdfaa.AOpV
