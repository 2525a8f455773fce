/- What the functions over disks come to, as plain values. -/
import Derived.Test.YtlmnmcfieagmbaaMOk
import Derived.Test.YtlmnmcfieagmbaaMPut
namespace Go.Proofs.Ytlmnmcfieagmbaa.MVal
open Go.RowKit Go.Proofs.YtlmnmcfieagmbaaW.PrintWords Go.Proofs.Ytlmnmcfieagmbaa.Fp Go.Proofs.Ytlmnmcfieagmbaa.MInt Go.Proofs.Ytlmnmcfieagmbaa.MKinds Go.Proofs.Ytlmnmcfieagmbaa.MRead Go.Proofs.Ytlmnmcfieagmbaa.MPut Go.Proofs.Ytlmnmcfieagmbaa.MOk
set_option linter.unusedVariables false
set_option linter.unusedSimpArgs false
def hasN (l : List Int) (n : Int) : Bool := !(l.all (fun x => !(x == n)))
def lastS (l : List (Int × List Int)) (n : Int) (s : List Int) : List Int := l.foldl (fun s e => if e.1 == n then e.2 else s) s
def canRead (m : MemV) (n : Int) : Bool := memB m && (!m.failed && (inR n 0 ((m.secs.length : Int) - 1) && !hasN m.bad n))
def readV (m : MemV) (n : Int) : List Int := if canRead m n then lastS m.cache n (m.secs.getD n.toNat []) else []
def canWrite (m : MemV) (n : Int) (s : List Int) : Bool := memB m && (!m.failed && (inR n 0 ((m.secs.length : Int) - 1) && (secB s && decide (m.cache.length < 60))))
def without (l : List Int) (n : Int) : List Int := l.filter (fun x => !(x == n))
def writeV (m : MemV) (n : Int) (s : List Int) : MemV := if canWrite m n s then ⟨m.secs, m.cache ++ [(n, s)], m.failed, without m.bad n⟩ else m
def putW (secs : List (List Int)) (e : Int × List Int) : List (List Int) := secs.set e.1.toNat e.2
def flushV (m : MemV) : MemV := if memB m && !m.failed then ⟨m.cache.foldl putW m.secs, [], m.failed, m.bad⟩ else m
def failV (m : MemV) : MemV := ⟨m.secs, [], true, m.bad⟩
def newV (n : Int) : MemV := if inR n 1 20 then ⟨List.replicate n.toNat [], [], false, []⟩ else ⟨[], [], false, []⟩
/-- Whether entry i of the cache is kept. -/
def kept (k : Int) (i : Nat) : Bool := decide (i < 20) && k.toNat.testBit i
def fallW (k : Int) : Nat → List (List Int) → List (Int × List Int) → List (List Int)
  | _, secs, [] => secs
  | i, secs, e :: l => fallW k (i + 1) (if kept k i then putW secs e else secs) l
def fallV (m : MemV) (keep : Int) : MemV := if memB m then ⟨fallW (if inR keep 0 1048575 then keep else 0) 0 m.secs m.cache, [], m.failed, m.bad⟩ else m
def insN (n : Int) : List Int → List Int
  | [] => [n]
  | x :: l => if x < n then x :: insN n l else n :: x :: l
def spoilV (m : MemV) (n : Int) : MemV := if memB m && (inR n 0 ((m.secs.length : Int) - 1) && !hasN m.bad n) then ⟨m.secs, m.cache, m.failed, insN n m.bad⟩ else m
theorem putW_len (secs : List (List Int)) (e : Int × List Int) : (putW secs e).length = secs.length := by simp [putW]
theorem foldPut_len (l : List (Int × List Int)) : ∀ secs : List (List Int), (l.foldl putW secs).length = secs.length := by
  induction l with
  | nil => intro secs; rfl
  | cons e l ih => intro secs; rw [List.foldl_cons, ih, putW_len]
theorem foldPut_snoc (l : List (Int × List Int)) (e : Int × List Int) (secs : List (List Int)) : (l ++ [e]).foldl putW secs = putW (l.foldl putW secs) e := by simp
theorem memB_parts {m : MemV} (h : memB m = true) : (∀ x ∈ m.secs, secB x = true) ∧ (∀ e ∈ m.cache, wrB m.secs.length e = true) ∧ badsB m.secs.length m.bad = true ∧ (1 ≤ m.secs.length ∧ m.secs.length ≤ 20) ∧ m.cache.length ≤ 60 := by
  simp only [memB, Bool.and_eq_true, List.all_eq_true, decide_eq_true_eq, inR] at h
  exact ⟨h.1, h.2.1, h.2.2.1, by omega, h.2.2.2.2⟩
theorem wrB_at {n : Nat} {e : Int × List Int} (h : wrB n e = true) : ∃ k : Nat, e.1 = (k : Int) ∧ k < n ∧ secB e.2 = true := by
  simp only [wrB, inR, Bool.and_eq_true, decide_eq_true_eq] at h
  exact ⟨e.1.toNat, by omega, by omega, h.2⟩
theorem fallW_snoc (k : Int) (l : List (Int × List Int)) (e : Int × List Int) : ∀ (j : Nat) (secs : List (List Int)), fallW k j secs (l ++ [e]) = if kept k (j + l.length) then putW (fallW k j secs l) e else fallW k j secs l := by
  induction l with
  | nil => intro j secs; simp [fallW]
  | cons x l ih => intro j secs; rw [List.cons_append, fallW, ih, fallW, List.length_cons, show j + 1 + l.length = j + (l.length + 1) by omega]
theorem fallW_len (k : Int) (l : List (Int × List Int)) : ∀ (j : Nat) (secs : List (List Int)), (fallW k j secs l).length = secs.length := by
  induction l with
  | nil => intro j secs; rfl
  | cons x l ih =>
    intro j secs
    rw [fallW, ih]
    split
    · exact putW_len _ _
    · rfl
end Go.Proofs.Ytlmnmcfieagmbaa.MVal
