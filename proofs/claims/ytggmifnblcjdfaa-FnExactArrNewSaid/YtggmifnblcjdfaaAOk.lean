/- ArrOk: the disks of an array. -/
import Derived.Test.YtggmifnblcjdfaaAArr
import Derived.Test.YtggmifnblcjdfaaMOk
import Derived.Test.YtggmifnblcjdfaaMSuper
import Derived.Test.YtggmifnblcjdfaaRG
namespace Go.Proofs.Ytggmifnblcjdfaa.AOk
open Go.RowKit Go.Proofs.Ytggmifnblcjdfaa.RJ Go.Proofs.Ytggmifnblcjdfaa.RP Go.Proofs.YtggmifnblcjdfaaW.PrintWords Go.Proofs.Ytggmifnblcjdfaa.Fp Go.Proofs.Ytggmifnblcjdfaa.FpStep Go.Proofs.Ytggmifnblcjdfaa.MInt Go.Proofs.Ytggmifnblcjdfaa.MKinds Go.Proofs.Ytggmifnblcjdfaa.MRead Go.Proofs.Ytggmifnblcjdfaa.MMake Go.Proofs.Ytggmifnblcjdfaa.MPut Go.Proofs.Ytggmifnblcjdfaa.MHeld Go.Proofs.Ytggmifnblcjdfaa.MOk Go.Proofs.Ytggmifnblcjdfaa.MSuper Go.Proofs.Ytggmifnblcjdfaa.Sep Go.Proofs.Ytggmifnblcjdfaa.SepStep Go.Proofs.Ytggmifnblcjdfaa.AKinds Go.Proofs.Ytggmifnblcjdfaa.AMake Go.Proofs.Ytggmifnblcjdfaa.AEnt Go.Proofs.Ytggmifnblcjdfaa.ALaw Go.Proofs.Ytggmifnblcjdfaa.AArr
set_option linter.unusedVariables false
set_option linter.unusedSimpArgs false
/-- Of every one in a row, with its number. -/
def allIx {α : Type} (l : List α) (p : Nat → α → Bool) : Bool := (List.range l.length).all fun j => match l[j]? with | some x => p j x | none => true
theorem allIx_false {α : Type} {l : List α} {p : Nat → α → Bool} {i : Nat} {x : α} (hx : l[i]? = some x) (hp : p i x = false) : allIx l p = false := by
  unfold allIx
  rw [List.all_eq_false]
  exact ⟨i, List.mem_range.2 (List.getElem?_eq_some_iff.1 hx).1, by rw [hx]; simp [hp]⟩
theorem allIx_true {α : Type} {l : List α} {p : Nat → α → Bool} (h : ∀ j x, j < l.length → l[j]? = some x → p j x = true) : allIx l p = true := by
  unfold allIx
  rw [List.all_eq_true]
  intro j hj
  have hj := List.mem_range.1 hj
  rw [List.getElem?_eq_getElem hj]
  exact h j _ hj (List.getElem?_eq_getElem hj)
theorem ix_next {α : Type} {l : List α} {p : Nat → α → Bool} {i : Nat} {x : α} (h : ∀ j y, j < i → l[j]? = some y → p j y = true) (hx : l[i]? = some x) (hp : p i x = true) : ∀ j y, j < i + 1 → l[j]? = some y → p j y = true := by
  intro j y hj hy
  by_cases hji : j = i
  · subst hji
    rw [hx] at hy
    cases hy
    exact hp
  · exact h j y (by omega) hy
/-- A disk of an array. -/
def okM (a : ArrV) (j : Nat) (m : MemV) : Bool := memB m && (decide ((m.secs.length : Int) = 6 + a.gs) && (!m.failed || (decide (a.lost = (j : Int)) || a.broken)))
theorem c_specL6Secs {w : World} (n s : Int) (h0 : 0 ≤ s) (h1 : s ≤ 1000) :
    Calls Try.prog 54 #[.agg #[.int .i64 n, .int .i64 s]] w fun e w' => e = .returned (.int .i64 (6 + s)) ∧ Below w.heap.size w w' := by
  have hw : IntKind.i64.wrap (6 + s) = 6 + s := IntWalk.i64_in _ (by omega)
  go_enter Try.func54, Try.ntmps54
  go_wp2
  go_ret
  exact ⟨rfl, below_alloc (Below.refl _ _) _⟩
theorem c_implSectors {w : World} (n s : Int) (h0 : 0 ≤ s) (h1 : s ≤ 1000) :
    Calls Try.prog 52 #[.agg #[.int .i64 n, .int .i64 s]] w fun e w' => e = .returned (.int .i64 (6 + s)) ∧ Below w.heap.size w w' := by
  have hw : IntKind.i64.wrap (6 + s) = 6 + s := IntWalk.i64_in _ (by omega)
  go_enter Try.func52, Try.ntmps52
  go_wp2
  go_ret
  exact ⟨rfl, below_alloc (Below.refl _ _) _⟩
end Go.Proofs.Ytggmifnblcjdfaa.AOk
