/- A new array, as plain values: what the program writes sector by sector is what the reference lays. -/
import Derived.Test.YtggmifnblcjdfaaMWSuper
import Derived.Test.YtggmifnblcjdfaaAXor
import Derived.Test.YtggmifnblcjdfaaAMark
import Derived.Test.YtggmifnblcjdfaaLawLib
namespace Go.Proofs.Ytggmifnblcjdfaa.ANewV
open Go.RowKit Go.Proofs.Ytggmifnblcjdfaa.MInt Go.Proofs.Ytggmifnblcjdfaa.MKinds Go.Proofs.Ytggmifnblcjdfaa.MRead Go.Proofs.Ytggmifnblcjdfaa.MPut Go.Proofs.Ytggmifnblcjdfaa.MHeld Go.Proofs.Ytggmifnblcjdfaa.MOk Go.Proofs.Ytggmifnblcjdfaa.MVal Go.Proofs.Ytggmifnblcjdfaa.MSuper Go.Proofs.Ytggmifnblcjdfaa.MWSuper Go.Proofs.Ytggmifnblcjdfaa.LawLib Go.Proofs.Ytggmifnblcjdfaa.AKinds Go.Proofs.Ytggmifnblcjdfaa.AXor Go.Proofs.Ytggmifnblcjdfaa.AMark
set_option linter.unusedVariables false
set_option linter.unusedSimpArgs false
def supN (id n s : Int) (m : Nat) : SupV := ⟨id, 0, m, n, s, 0, -1, 0⟩
/-- The program's: the superblock written, then a zero for each stripe; at last flushed. -/
def dskI (id n s : Int) (m : Nat) : Nat → MemV
  | 0 => wsupV (newV (6 + s)) (supN id n s m)
  | j + 1 => writeV (dskI id n s m j) (dataV (j : Int)) [0]
/-- The reference's. -/
def secsS (id n s : Int) (m : Nat) : Nat → List (List Int)
  | 0 => (newV (6 + s)).secs.set 0 (putSup (supN id n s m))
  | j + 1 => (secsS id n s m j).set (dataV (j : Int)).toNat [0]
def dskS (id n s : Int) (m j : Nat) : MemV := ⟨secsS id n s m j, [], false, []⟩
def dskN (id n s : Int) (m : Nat) : MemV := dskS id n s m s.toNat
def memsN (id n s : Int) (i : Nat) : List MemV := (List.range i).map (dskN id n s)
theorem memsN_succ (id n s : Int) (i : Nat) : memsN id n s (i + 1) = memsN id n s i ++ [dskN id n s i] := by simp [memsN, List.range_succ]
theorem memsN_len (id n s : Int) (i : Nat) : (memsN id n s i).length = i := by simp [memsN]
def zeroA : ArrV := ⟨0, 0, 0, [], 0, 0, 0, 0, 0, [], 0, false, false⟩
def partN (id n s : Int) (i : Nat) : ArrV := ⟨id, n, s, memsN id n s i, -1, 0, 0, 0, 0, [], -1, false, false⟩
def newOk (id n s : Int) : Bool := geoB n s && inR id 1 60000
def newR (id n s : Int) : ArrV := if newOk id n s then partN id n s n.toNat else zeroA
section
variable {id n s : Int} {m : Nat}
theorem dataV_nat (j : Nat) (h : j ≤ 1000) : dataV (j : Int) = (j : Int) + 6 := by unfold dataV; rw [if_pos (by simp [inR]; omega)]
theorem sup_ok (hg : geoB n s = true) (hi : inR id 1 60000 = true) (hm : (m : Int) < n) : supB (supN id n s m) = true := by
  obtain ⟨q1, q2, q3, q4⟩ := geoB_true hg
  have e2 : inR 0 0 60000 = true := rfl
  have e4 : inR (m : Int) 0 (n - 1) = true := by simp [inR]; omega
  have e5 : inR (-1) (-1) (n - 1) = true := by simp [inR]; omega
  have e6 : inR 0 0 s = true := by simp [inR]; omega
  show (inR id 1 60000 && (inR 0 0 60000 && (inR 0 0 60000 && (geoB n s && (inR (m : Int) 0 (n - 1) && (inR (-1) (-1) (n - 1) && (inR 0 0 s && ((0 : Int) == 0 || _)))))))) = true
  rw [hi, e2, hg, e4, e5, e6]; rfl
theorem sup_secB (hg : geoB n s = true) (hi : inR id 1 60000 = true) (hm : (m : Int) < n) : secB (putSup (supN id n s m)) = true := by
  have h1 := sup_ok hg hi hm
  unfold putSup
  rw [if_pos h1]
  obtain ⟨q1, q2, q3, q4⟩ := geoB_true hg
  have q5 : 1 ≤ id ∧ id ≤ 60000 := by simpa [inR] using hi
  simp only [secB, supL, supN, List.length_cons, List.length_nil, List.all_cons, List.all_nil, isW, inR, Bool.and_eq_true, decide_eq_true_eq, Bool.and_true]
  repeat' constructor
  all_goals omega
def cacheN (id n s : Int) (m j : Nat) : List (Int × List Int) := (0, putSup (supN id n s m)) :: (List.range j).map (fun (k : Nat) => ((k : Int) + 6, [0]))
def dskC (id n s : Int) (m j : Nat) : MemV := ⟨List.replicate (6 + s).toNat [], cacheN id n s m j, false, []⟩
theorem memB_dskC (hg : geoB n s = true) (hi : inR id 1 60000 = true) (hm : (m : Int) < n) {j : Nat} (hj : (j : Int) ≤ s) : memB (dskC id n s m j) = true := by
  have h1 := sup_secB (m := m) hg hi hm
  have hs : 1 ≤ s ∧ s ≤ 8 := by simp [geoB, inR] at hg; omega
  have e1 : (List.replicate (6 + s).toNat ([] : List Int)).all secB = true := by rw [List.all_eq_true]; intro x hx; rw [List.eq_of_mem_replicate hx]; rfl
  have e2 : (cacheN id n s m j).all (wrB (6 + s).toNat) = true := by
    rw [List.all_eq_true]
    intro x hx
    rcases List.mem_cons.1 hx with rfl | hx
    · simp only [wrB]; rw [h1]; simp [inR]; omega
    · obtain ⟨k, hk, rfl⟩ := List.mem_map.1 hx
      have := List.mem_range.1 hk
      have h2 : secB [0] = true := rfl
      simp only [wrB]; rw [h2]; simp [inR]; omega
  have e3 : badsB (6 + s).toNat [] = true := rfl
  have e4 : inR ((6 + s).toNat : Int) 1 20 = true := by simp [inR]; omega
  unfold memB dskC
  simp only [List.length_replicate]
  rw [e1, e2, e3, e4]
  have : (cacheN id n s m j).length ≤ 60 := by simp [cacheN]; omega
  simp [this]
theorem dskI_eq (hg : geoB n s = true) (hi : inR id 1 60000 = true) (hm : (m : Int) < n) : ∀ j : Nat, (j : Int) ≤ s → dskI id n s m j = dskC id n s m j
  | 0, hj => by
    have hs : 1 ≤ s ∧ s ≤ 8 := by simp [geoB, inR] at hg; omega
    have h1 := sup_secB (m := m) hg hi hm
    have h0 : newV (6 + s) = ⟨List.replicate (6 + s).toNat [], [], false, []⟩ := by unfold newV; rw [if_pos (by simp [inR]; omega)]
    have hb : memB (newV (6 + s)) = true := by
      rw [h0]
      have e1 : (List.replicate (6 + s).toNat ([] : List Int)).all secB = true := by rw [List.all_eq_true]; intro x hx; rw [List.eq_of_mem_replicate hx]; rfl
      have e4 : inR ((6 + s).toNat : Int) 1 20 = true := by simp [inR]; omega
      unfold memB
      simp only [List.length_replicate]
      rw [e1, e4]; rfl
    have hc : canWrite (newV (6 + s)) 0 (putSup (supN id n s m)) = true := by
      unfold canWrite
      rw [hb, h1, h0]
      simp [inR]; omega
    have e9 : (supN id n s m).gen % 2 = 0 := rfl
    rw [dskI, wsupV, if_pos (sup_ok hg hi hm), e9, writeV, if_pos hc, h0]
    rfl
  | j + 1, hj => by
    have hs : 1 ≤ s ∧ s ≤ 8 := by simp [geoB, inR] at hg; omega
    have ih := dskI_eq hg hi hm j (by omega)
    have hb := memB_dskC hg hi hm (j := j) (by omega)
    have hc : canWrite (dskC id n s m j) ((j : Int) + 6) [0] = true := by
      unfold canWrite
      rw [hb]
      have h2 : secB [0] = true := rfl
      rw [h2]
      simp [dskC, cacheN, inR]; omega
    rw [dskI, ih, dataV_nat j (by omega), writeV, if_pos hc]
    simp [dskC, cacheN, without, List.range_succ]
theorem secsS_eq (h8 : s ≤ 8) (secs : List (List Int)) (h0 : secs = (newV (6 + s)).secs) : ∀ j : Nat, (j : Int) ≤ s → (cacheN id n s m j).foldl putW secs = secsS id n s m j
  | 0, _ => by rw [h0]; rfl
  | j + 1, hj => by
    have ih := secsS_eq h8 secs h0 j (by omega)
    have : cacheN id n s m (j + 1) = cacheN id n s m j ++ [((j : Int) + 6, [0])] := by simp [cacheN, List.range_succ]
    rw [this, List.foldl_append, ih, secsS, dataV_nat j (by omega)]; rfl
theorem flush_dsk (hg : geoB n s = true) (hi : inR id 1 60000 = true) (hm : (m : Int) < n) : flushV (dskI id n s m s.toNat) = dskN id n s m := by
  have hs : 1 ≤ s ∧ s ≤ 8 := by simp [geoB, inR] at hg; omega
  have hj : ((s.toNat : Nat) : Int) ≤ s := by omega
  rw [dskI_eq hg hi hm _ hj]
  unfold flushV
  rw [memB_dskC hg hi hm hj]
  have h0 : (newV (6 + s)).secs = List.replicate (6 + s).toNat [] := by unfold newV; rw [if_pos (by simp [inR]; omega)]
  have e := secsS_eq (id := id) (n := n) (m := m) hs.2 (List.replicate (6 + s).toNat []) h0.symm s.toNat hj
  show (⟨(cacheN id n s m s.toNat).foldl putW (List.replicate (6 + s).toNat []), [], false, []⟩ : MemV) = _
  rw [e]; rfl
theorem secsS_len (hs : 1 ≤ s ∧ s ≤ 8) : ∀ j, (secsS id n s m j).length = (6 + s).toNat
  | 0 => by simp [secsS, newV, inR]; rw [if_pos (by omega)]; simp
  | j + 1 => by rw [secsS, List.length_set, secsS_len hs j]
end
end Go.Proofs.Ytggmifnblcjdfaa.ANewV
