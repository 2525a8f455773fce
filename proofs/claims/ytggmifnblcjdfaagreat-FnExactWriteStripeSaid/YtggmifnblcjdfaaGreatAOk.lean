/- ArrOk: the disks of an array. -/
import Derived.Test.YtggmifnblcjdfaaGreatAArr
import Derived.Test.YtggmifnblcjdfaaGreatMOk
import Derived.Test.YtggmifnblcjdfaaGreatMSuper
import Derived.Test.YtggmifnblcjdfaaGreatRG
namespace Go.Proofs.YtggmifnblcjdfaaGreat.AOk
open Go.RowKit Go.Proofs.YtggmifnblcjdfaaGreat.RJ Go.Proofs.YtggmifnblcjdfaaGreat.RP Go.Proofs.YtggmifnblcjdfaaGreatW.PrintWords Go.Proofs.YtggmifnblcjdfaaGreat.Fp Go.Proofs.YtggmifnblcjdfaaGreat.FpStep Go.Proofs.YtggmifnblcjdfaaGreat.MInt Go.Proofs.YtggmifnblcjdfaaGreat.MKinds Go.Proofs.YtggmifnblcjdfaaGreat.MRead Go.Proofs.YtggmifnblcjdfaaGreat.MMake Go.Proofs.YtggmifnblcjdfaaGreat.MPut Go.Proofs.YtggmifnblcjdfaaGreat.MHeld Go.Proofs.YtggmifnblcjdfaaGreat.MOk Go.Proofs.YtggmifnblcjdfaaGreat.MSuper Go.Proofs.YtggmifnblcjdfaaGreat.Sep Go.Proofs.YtggmifnblcjdfaaGreat.SepStep Go.Proofs.YtggmifnblcjdfaaGreat.AKinds Go.Proofs.YtggmifnblcjdfaaGreat.AMake Go.Proofs.YtggmifnblcjdfaaGreat.AEnt Go.Proofs.YtggmifnblcjdfaaGreat.ALaw Go.Proofs.YtggmifnblcjdfaaGreat.AArr
set_option linter.unusedVariables false
set_option linter.unusedSimpArgs false
/-- Of every one in a row, with its number. -/
def allIx {α : Type} (l : List α) (p : Nat → α → Bool) : Bool := (List.range l.length).all fun j => match l[j]? with | some x => p j x | none => true
theorem allIx_false {α : Type} {l : List α} {p : Nat → α → Bool} {i : Nat} {x : α} (hx : l[i]? = some x) (hp : p i x = false) : allIx l p = false := by
  unfold allIx
  rw [List.all_eq_false]
  exact ⟨i, List.mem_range.2 (List.getElem?_eq_some_iff.1 hx).1, by rw [hx]; simp [hp]⟩
theorem allIx_true {α : Type} {l : List α} {p : Nat → α → Bool} (h : ∀ j x, j < l.length → l[j]? = some x → p j x = true) : allIx l p = true := by
  unfold allIx
  rw [List.all_eq_true]
  intro j hj
  have hj := List.mem_range.1 hj
  rw [List.getElem?_eq_getElem hj]
  exact h j _ hj (List.getElem?_eq_getElem hj)
theorem ix_next {α : Type} {l : List α} {p : Nat → α → Bool} {i : Nat} {x : α} (h : ∀ j y, j < i → l[j]? = some y → p j y = true) (hx : l[i]? = some x) (hp : p i x = true) : ∀ j y, j < i + 1 → l[j]? = some y → p j y = true := by
  intro j y hj hy
  by_cases hji : j = i
  · subst hji
    rw [hx] at hy
    cases hy
    exact hp
  · exact h j y (by omega) hy
/-- A disk of an array. -/
def okM (a : ArrV) (j : Nat) (m : MemV) : Bool := memB m && (decide ((m.secs.length : Int) = 6 + a.gs) && (!m.failed || (decide (a.lost = (j : Int)) || a.broken)))
theorem c_specL6Secs {w : World} (n s : Int) (h0 : 0 ≤ s) (h1 : s ≤ 1000) :
    Calls Tryz.prog 146 #[.agg #[.int .i64 n, .int .i64 s]] w fun e w' => e = .returned (.int .i64 (6 + s)) ∧ Below w.heap.size w w' := by
  have hw : IntKind.i64.wrap (6 + s) = 6 + s := IntWalk.i64_in _ (by omega)
  go_enter Tryz.func146, Tryz.ntmps146
  go_wp2
  go_ret
  exact ⟨rfl, below_alloc (Below.refl _ _) _⟩
theorem c_implSectors {w : World} (n s : Int) (h0 : 0 ≤ s) (h1 : s ≤ 1000) :
    Calls Tryz.prog 82 #[.agg #[.int .i64 n, .int .i64 s]] w fun e w' => e = .returned (.int .i64 (6 + s)) ∧ Below w.heap.size w w' := by
  have hw : IntKind.i64.wrap (6 + s) = 6 + s := IntWalk.i64_in _ (by omega)
  go_enter Tryz.func82, Tryz.ntmps82
  go_wp2
  go_ret
  exact ⟨rfl, below_alloc (Below.refl _ _) _⟩
end Go.Proofs.YtggmifnblcjdfaaGreat.AOk
