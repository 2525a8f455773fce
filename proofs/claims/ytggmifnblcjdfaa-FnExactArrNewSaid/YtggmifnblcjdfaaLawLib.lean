/- What the laws over disks share. -/
import Derived.Test.YtggmifnblcjdfaaSepMore
import Derived.Test.YtggmifnblcjdfaaMHeld
import Derived.Test.YtggmifnblcjdfaaMMark
import Derived.Test.YtggmifnblcjdfaaMVal
import Derived.Deep.RegionHeld3
namespace Go.Proofs.Ytggmifnblcjdfaa.LawLib
open Go.RowKit Go.Proofs.Ytggmifnblcjdfaa.RJ Go.Proofs.YtggmifnblcjdfaaW.PrintWords Go.Proofs.Ytggmifnblcjdfaa.Fp Go.Proofs.Ytggmifnblcjdfaa.FpStep Go.Proofs.Ytggmifnblcjdfaa.MInt Go.Proofs.Ytggmifnblcjdfaa.MKinds Go.Proofs.Ytggmifnblcjdfaa.MRead Go.Proofs.Ytggmifnblcjdfaa.MMake Go.Proofs.Ytggmifnblcjdfaa.MPut Go.Proofs.Ytggmifnblcjdfaa.MHeld Go.Proofs.Ytggmifnblcjdfaa.MMark Go.Proofs.Ytggmifnblcjdfaa.MOk Go.Proofs.Ytggmifnblcjdfaa.MVal Go.Proofs.Ytggmifnblcjdfaa.Sep Go.Proofs.Ytggmifnblcjdfaa.SepStep
set_option linter.unusedVariables false
set_option linter.unusedSimpArgs false
theorem tot_mem {l : List (List Int)} {x : List Int} (h : x ∈ l) : x.length ≤ tot l := by
  induction l with
  | nil => cases h
  | cons y l ih =>
    simp only [tot]
    rcases List.mem_cons.1 h with rfl | h
    · omega
    · have := ih h; omega
theorem totW_mem {l : List (Int × List Int)} {x : Int × List Int} (h : x ∈ l) : x.2.length ≤ totW l := by
  induction l with
  | nil => cases h
  | cons y l ih =>
    simp only [totW]
    rcases List.mem_cons.1 h with rfl | h
    · omega
    · have := ih h; omega
theorem small_of (m : MemV) (h : (szM m : Int) ≤ 1048576) : Small m := by
  have h1 := totW_sum m.cache
  unfold szM szSS at h
  exact ⟨by omega, fun x hx => by have := tot_mem hx; omega, by omega, fun x hx => by have := totW_mem hx; omega, by omega⟩
theorem totM_szM (m : MemV) : totM m ≤ szM m := by unfold totM szM szSS; omega
theorem upd_mark {w w' : World} {F F' : List Nat} {v : Value} {m : MemV} (h : MemO w' F' v m) (hn : F'.Nodup) (hs : ∀ k ∈ F', k ∈ F) (hc : Chg F w w') : Upd w w' F (me F' v m) := ⟨hc, hn, fun k hk => .inl (hs k hk), lies_mem h⟩
theorem upd_ints {w w' : World} {F : List Nat} {v : Value} {xs : List Int} {e : TypeId} (h : oInt.O e w' F v xs) (hn : F.Nodup) (hc : Chg F w w') : Upd w w' F (rw_ oInt e F v xs) := ⟨hc, hn, fun k hk => .inl hk, lies_row h⟩
theorem writeV_tot {m : MemV} {n : Int} {xs : List Int} : totM (writeV m n xs) ≤ totM m + 1 + xs.length := by
  unfold writeV
  split
  · unfold totM
    simp only
    have h1 : ∀ l : List (Int × List Int), totW (l ++ [(n, xs)]) = totW l + 1 + xs.length := fun l => by
      induction l with
      | nil => simp [totW]
      | cons y l ih => simp only [List.cons_append, totW, ih]; omega
    have h2 : (without m.bad n).length ≤ m.bad.length := List.length_filter_le _ _
    rw [h1]; omega
  · omega
theorem failV_tot (m : MemV) : totM (failV m) ≤ totM m := by unfold failV totM; simp only [totW]; omega
theorem lastS_len {l : List (Int × List Int)} {n : Int} {s : List Int} {b : Nat} (h0 : s.length ≤ b) (h : ∀ x ∈ l, x.2.length ≤ b) : (lastS l n s).length ≤ b := by
  induction l generalizing s with
  | nil => exact h0
  | cons e l ih =>
    rw [lastS, List.foldl_cons]
    refine ih ?_ (fun x hx => h x (List.mem_cons_of_mem _ hx))
    split
    · exact h e List.mem_cons_self
    · exact h0
theorem readV_len (m : MemV) (n : Int) : (readV m n).length ≤ totM m := by
  unfold readV
  split
  · refine lastS_len ?_ (fun x hx => by have := totW_mem hx; unfold totM; omega)
    rw [List.getD_eq_getElem?_getD]
    cases h : m.secs[n.toNat]? with
    | none => simp
    | some x => have := tot_mem (List.mem_of_getElem? h); simp only [Option.getD_some]; unfold totM; omega
  · simp
theorem tot_nils (k : Nat) : tot (List.replicate k []) = 0 := by
  induction k with
  | zero => rfl
  | succ k ih => simp only [List.replicate_succ, tot, ih]; rfl
theorem newV_tot (n : Int) : totM (newV n) ≤ 4194304 := by
  unfold newV
  split
  · simp [totM, totW, tot_nils]
  · simp [totM, totW, tot]
theorem tot_set (l : List (List Int)) (s : List Int) : ∀ k : Nat, tot (l.set k s) ≤ tot l + s.length := by
  induction l with
  | nil => intro k; simp [tot]
  | cons x l ih =>
    intro k
    cases k with
    | zero => simp only [List.set_cons_zero, tot]; omega
    | succ k => have := ih k; simp only [List.set_cons_succ, tot]; omega
theorem tot_fold (l : List (Int × List Int)) : ∀ secs : List (List Int), tot (l.foldl putW secs) ≤ tot secs + totW l := by
  induction l with
  | nil => intro secs; simp [totW]
  | cons e l ih => intro secs; have := ih (putW secs e); have := tot_set secs e.2 e.1.toNat; rw [List.foldl_cons]; simp only [putW, totW] at *; omega
theorem tot_fall (k : Int) (l : List (Int × List Int)) : ∀ (j : Nat) (secs : List (List Int)), tot (fallW k j secs l) ≤ tot secs + totW l := by
  induction l with
  | nil => intro j secs; simp [fallW, totW]
  | cons e l ih =>
    intro j secs
    rw [fallW]
    have h2 := tot_set secs e.2 e.1.toNat
    by_cases hk : kept k j = true
    · rw [if_pos hk]
      have h1 := ih (j + 1) (putW secs e)
      simp only [putW, totW] at *; omega
    · rw [if_neg hk]
      have h1 := ih (j + 1) secs
      simp only [totW] at *; omega
theorem flushV_tot (m : MemV) : totM (flushV m) ≤ totM m := by
  unfold flushV
  split
  · have := tot_fold m.cache m.secs; simp only [totM, totW]; omega
  · exact Nat.le_refl _
theorem fallV_tot (m : MemV) (n : Int) : totM (fallV m n) ≤ totM m := by
  unfold fallV
  split
  · have := tot_fall (if inR n 0 1048575 then n else 0) m.cache 0 m.secs; simp only [totM, totW]; omega
  · exact Nat.le_refl _
theorem insN_len (n : Int) : ∀ l : List Int, (insN n l).length = l.length + 1
  | [] => rfl
  | y :: l => by
    unfold insN
    split
    · simp [insN_len n l]
    · simp
theorem spoilV_tot (m : MemV) (n : Int) : totM (spoilV m n) ≤ totM m + 1 := by
  unfold spoilV
  split
  · simp only [totM, insN_len]; omega
  · omega
end Go.Proofs.Ytggmifnblcjdfaa.LawLib
