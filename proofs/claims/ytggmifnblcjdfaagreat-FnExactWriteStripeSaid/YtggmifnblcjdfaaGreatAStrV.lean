/- A stripe written to an array of its own, as plain values. -/
import Derived.Test.YtggmifnblcjdfaaGreatABun4
import Derived.Test.YtggmifnblcjdfaaGreatALive
import Derived.Test.YtggmifnblcjdfaaGreatAXor
import Derived.Test.YtggmifnblcjdfaaGreatAGeo
import Derived.Test.YtggmifnblcjdfaaGreatMRec
namespace Go.Proofs.YtggmifnblcjdfaaGreat.AStrV
open Go.RowKit Go.Proofs.YtggmifnblcjdfaaGreat.MKinds Go.Proofs.YtggmifnblcjdfaaGreat.MRead Go.Proofs.YtggmifnblcjdfaaGreat.MPut Go.Proofs.YtggmifnblcjdfaaGreat.MHeld Go.Proofs.YtggmifnblcjdfaaGreat.MOk Go.Proofs.YtggmifnblcjdfaaGreat.MInt Go.Proofs.YtggmifnblcjdfaaGreat.MVal Go.Proofs.YtggmifnblcjdfaaGreat.MSuper Go.Proofs.YtggmifnblcjdfaaGreat.LawLib Go.Proofs.YtggmifnblcjdfaaGreat.AKinds Go.Proofs.YtggmifnblcjdfaaGreat.AMark Go.Proofs.YtggmifnblcjdfaaGreat.AOpV Go.Proofs.YtggmifnblcjdfaaGreat.ASyncF Go.Proofs.YtggmifnblcjdfaaGreat.AMarkV Go.Proofs.YtggmifnblcjdfaaGreat.ALive Go.Proofs.YtggmifnblcjdfaaGreat.AXor Go.Proofs.YtggmifnblcjdfaaGreat.AGeo Go.Proofs.YtggmifnblcjdfaaGreat.MRec Go.Proofs.YtggmifnblcjdfaaGreat.AMarkF Go.Proofs.YtggmifnblcjdfaaGreat.AOkA
set_option linter.unusedVariables false
set_option linter.unusedSimpArgs false
def slotV (q : Int) : Int := if q < 0 then -1 else 2 + q % 4
/-- One sector written to the first i disks; then all is synced. -/
def putA (a : ArrV) (k : Int) (xs : List Int) : Nat → ArrV
  | 0 => a
  | i + 1 => putV (putA a k xs i) i k xs
def recV (a : ArrV) (k : Int) (xs : List Int) : ArrV := syncV (putA a k xs a.mems.length)
def wordW (n s : Int) (data : List Int) (m : Nat) : Int := if (m : Int) = parN n s then xorL 0 data else data.getD (((m : Int) - parN n s - 1 + n) % n).toNat 0
/-- The words of a stripe, where they are to be. -/
def datN (a : ArrV) (s : Int) (data : List Int) : Nat → ArrV
  | 0 => a
  | i + 1 => if liveB (datN a s data i) i s then putV (datN a s data i) i (dataV s) [wordW a.gn s data i] else datN a s data i
def datV (a : ArrV) (s : Int) (data : List Int) : ArrV := datN a s data a.mems.length
def seqV (a : ArrV) : ArrV := { a with seq := a.seq + 1 }
def strA (a : ArrV) : ArrV := if 4 ≤ a.seq - a.tail then checkV a else a
def strB (a : ArrV) (s : Int) (data : List Int) : ArrV := recV a (slotV a.seq) (putR a.seq s data)
def strV (a : ArrV) (s : Int) (data : List Int) : ArrV :=
  if (strA a).down then strA a else if (strB (strA a) s data).down then strB (strA a) s data else datV (seqV (strB (strA a) s data)) s data
def dobV (a : ArrV) (data : List Int) : Bool := decide ((data.length : Int) = a.gn - 1) && data.all isW
def codeV (a : ArrV) (s : Int) (data : List Int) : Int :=
  if !(arrB a && dobV a data) then 1 else if a.down then 6 else if !inR s 0 (a.gs - 1) then 2 else if a.broken then 5 else if (decide (a.seq = 60000) || decide (59990 ≤ a.gen)) then 7 else 0
def downC (a : ArrV) : Int := if a.down then 6 else 0
theorem downC_yes {a : ArrV} (h : a.down = true) : downC a = 6 := by unfold downC; rw [h]; rfl
theorem downC_no {a : ArrV} (h : a.down = false) : downC a = 0 := by unfold downC; rw [h]; rfl
def wrR (a : ArrV) (s : Int) (data : List Int) : ArrV × Int := if codeV a s data = 0 then (strV a s data, downC (strV a s data)) else (a, codeV a s data)
section
variable {a : ArrV} {k s : Int} {xs data : List Int}
theorem putA_same (a : ArrV) (k : Int) (xs : List Int) : ∀ i, Same a (putA a k xs i)
  | 0 => Same.refl a
  | i + 1 => (putA_same a k xs i).trans (turnV_same _ _ _)
theorem putV_tot (a : ArrV) (i : Nat) (k : Int) (xs : List Int) : totMS (putV a i k xs).mems ≤ totMS a.mems + (xs.length + 1) :=
  turnV_tot (fun m => by
    rw [tot1_eq, tot1_eq]
    have h3 := writeV_tot (m := m) (n := k) (xs := xs)
    omega)
theorem putA_tot (a : ArrV) (k : Int) (xs : List Int) : ∀ i, totMS (putA a k xs i).mems ≤ totMS a.mems + i * (xs.length + 1)
  | 0 => by simp [putA]
  | i + 1 => by
    have h1 := putA_tot a k xs i
    have h2 := putV_tot (putA a k xs i) i k xs
    rw [putA, Nat.succ_mul]; omega
theorem putA_stay {i : Nat} (h : (putA a k xs i).down = true) : ∀ d, putA a k xs (i + d) = putA a k xs i
  | 0 => rfl
  | d + 1 => by rw [← Nat.add_assoc, putA, putA_stay h d, putV, turnV_down h]
theorem recV_down {i : Nat} (h : (putA a k xs i).down = true) (hi : i ≤ a.mems.length) : recV a k xs = putA a k xs i := by
  have h1 := putA_stay h (a.mems.length - i)
  rw [show i + (a.mems.length - i) = a.mems.length by omega] at h1
  unfold recV
  rw [h1, syncV_of_down h]
theorem putV_small {i : Nat} (h : ∀ m ∈ a.mems, Small m) (hx : xs.length ≤ 16777216) : ∀ m ∈ (putV a i k xs).mems, Small m := turnV_all (P := Small) h (fun m hm => small_write hm hx)
theorem putA_small (h : ∀ m ∈ a.mems, Small m) (hx : xs.length ≤ 16777216) : ∀ i, ∀ m ∈ (putA a k xs i).mems, Small m
  | 0 => h
  | i + 1 => putV_small (putA_small h hx i) hx
theorem putA_fuse (h : a.fuse ≤ 1000) : ∀ i, (putA a k xs i).fuse ≤ 1000
  | 0 => h
  | i + 1 => turnV_fuse (putA_fuse h i)
theorem recV_same (a : ArrV) (k : Int) (xs : List Int) : Same a (recV a k xs) := (putA_same a k xs _).trans (syncN_same _ _)
theorem recV_fuse (h : a.fuse ≤ 1000) : (recV a k xs).fuse ≤ 1000 := syncV_fuse (putA_fuse h _)
theorem recV_small (h : ∀ m ∈ a.mems, Small m) (hx : xs.length ≤ 16777216) : ∀ m ∈ (recV a k xs).mems, Small m := syncV_small (putA_small h hx _)
theorem recV_tot (a : ArrV) (k : Int) (xs : List Int) : totMS (recV a k xs).mems ≤ totMS a.mems + a.mems.length * (xs.length + 1) :=
  Nat.le_trans (syncN_tot _ _) (putA_tot a k xs _)
theorem datN_same (a : ArrV) (s : Int) (data : List Int) : ∀ i, Same a (datN a s data i)
  | 0 => Same.refl a
  | i + 1 => by
    rw [datN]
    split
    · exact (datN_same a s data i).trans (turnV_same _ _ _)
    · exact datN_same a s data i
theorem datN_stay {i : Nat} (h : (datN a s data i).down = true) : ∀ d, datN a s data (i + d) = datN a s data i
  | 0 => rfl
  | d + 1 => by
    rw [← Nat.add_assoc, datN, datN_stay h d, putV, turnV_down h]
    split <;> rfl
theorem datV_down {i : Nat} (h : (datN a s data i).down = true) (hi : i ≤ a.mems.length) : datV a s data = datN a s data i := by
  have h1 := datN_stay h (a.mems.length - i)
  rw [show i + (a.mems.length - i) = a.mems.length by omega] at h1
  exact h1
theorem datN_small (h : ∀ m ∈ a.mems, Small m) : ∀ i, ∀ m ∈ (datN a s data i).mems, Small m
  | 0 => h
  | i + 1 => by
    rw [datN]
    split
    · exact putV_small (datN_small h i) (by simp)
    · exact datN_small h i
theorem datN_fuse (h : a.fuse ≤ 1000) : ∀ i, (datN a s data i).fuse ≤ 1000
  | 0 => h
  | i + 1 => by
    rw [datN]
    split
    · exact turnV_fuse (datN_fuse h i)
    · exact datN_fuse h i
theorem datN_tot (a : ArrV) (s : Int) (data : List Int) : ∀ i, totMS (datN a s data i).mems ≤ totMS a.mems + i * 2
  | 0 => by simp [datN]
  | i + 1 => by
    have h1 := datN_tot a s data i
    rw [datN]
    split
    · have h2 := putV_tot (datN a s data i) i (dataV s) [wordW a.gn s data i]
      simp only [List.length_singleton] at h2
      omega
    · omega
theorem syncV_same (a : ArrV) : Same a (syncV a) := syncN_same a _
theorem markV_same (a : ArrV) : Same { a with gen := a.gen + 1 } (markV a) := (putN_same (genV a) _).trans (syncN_same _ _)
theorem checkV_small (h : ∀ m ∈ a.mems, Small m) : ∀ m ∈ (checkV a).mems, Small m := by
  unfold checkV
  split
  · exact syncV_small h
  · exact syncV_small (putN_small (a := genV (tailV (syncV a))) (syncV_small h) _)
theorem checkV_fuse (h : a.fuse ≤ 1000) : (checkV a).fuse ≤ 1000 := by
  unfold checkV
  split
  · exact syncV_fuse h
  · exact syncV_fuse (putN_fuse (a := genV (tailV (syncV a))) (syncV_fuse h) _)
/-- What check leaves: all but the tail and the count. -/
structure Most (a b : ArrV) : Prop where
  gn : b.gn = a.gn
  gs : b.gs = a.gs
  lost : b.lost = a.lost
  built : b.built = a.built
  seq : b.seq = a.seq
  dirty : b.dirty = a.dirty
  len : b.mems.length = a.mems.length
theorem Most.refl (a : ArrV) : Most a a := ⟨rfl, rfl, rfl, rfl, rfl, rfl, rfl⟩
theorem _root_.Go.Proofs.YtggmifnblcjdfaaGreat.AMarkV.Same.most {a b : ArrV} (h : Same a b) : Most a b := ⟨h.gn, h.gs, h.lost, h.built, h.seq, h.dirty, h.len⟩
theorem Most.trans {a b c : ArrV} (h : Most a b) (g : Most b c) : Most a c := ⟨g.gn.trans h.gn, g.gs.trans h.gs, g.lost.trans h.lost, g.built.trans h.built, g.seq.trans h.seq, g.dirty.trans h.dirty, g.len.trans h.len⟩
theorem markV_most (a : ArrV) : Most a (markV a) := (show Most a (genV a) from ⟨rfl, rfl, rfl, rfl, rfl, rfl, rfl⟩).trans (markV_same a).most
theorem checkV_most (a : ArrV) : Most a (checkV a) := by
  unfold checkV
  split
  · exact (syncV_same a).most
  · exact (syncV_same a).most.trans ((show Most (syncV a) (tailV (syncV a)) from ⟨rfl, rfl, rfl, rfl, rfl, rfl, rfl⟩).trans (markV_most _))
theorem strA_most (a : ArrV) : Most a (strA a) := by unfold strA; split; exact checkV_most a; exact Most.refl a
theorem strA_small (h : ∀ m ∈ a.mems, Small m) : ∀ m ∈ (strA a).mems, Small m := by unfold strA; split; exact checkV_small h; exact h
theorem strA_fuse (h : a.fuse ≤ 1000) : (strA a).fuse ≤ 1000 := by unfold strA; split; exact checkV_fuse h; exact h
theorem strV_most_seq (a : ArrV) (s : Int) (data : List Int) : (strV a s data).dirty = a.dirty ∧ (strV a s data).mems.length = a.mems.length := by
  have h1 := strA_most a
  have h2 := recV_same (strA a) (slotV (strA a).seq) (putR (strA a).seq s data)
  unfold strV
  split
  · exact ⟨h1.dirty, h1.len⟩
  · split
    · exact ⟨h2.dirty.trans h1.dirty, h2.len.trans h1.len⟩
    · have h3 := datN_same (seqV (strB (strA a) s data)) s data (seqV (strB (strA a) s data)).mems.length
      exact ⟨h3.dirty.trans (h2.dirty.trans h1.dirty), h3.len.trans (h2.len.trans h1.len)⟩
theorem strV_tot (a : ArrV) (s : Int) (data : List Int) (hd : data.length ≤ 1048576) : totMS (strV a s data).mems + totW (strV a s data).dirty ≤ totMS a.mems + totW a.dirty + a.mems.length * 1048600 := by
  rw [(strV_most_seq a s data).1]
  have h1 : totMS (strA a).mems ≤ totMS a.mems + a.mems.length * 11 := by
    unfold strA
    split
    · have := checkV_tot a
      rw [checkV_dirty] at this
      omega
    · omega
  have hl := (strA_most a).len
  have h2 := recV_tot (strA a) (slotV (strA a).seq) (putR (strA a).seq s data)
  have h4 := putR_len (strA a).seq s data
  have h5 : (strA a).mems.length * ((putR (strA a).seq s data).length + 1) ≤ a.mems.length * 1048581 := by
    rw [hl]; exact Nat.mul_le_mul_left _ (by omega)
  have hl2 := (recV_same (strA a) (slotV (strA a).seq) (putR (strA a).seq s data)).len
  unfold strV
  split
  · omega
  · split
    · unfold strB; omega
    · have h6 := datN_tot (seqV (strB (strA a) s data)) s data (seqV (strB (strA a) s data)).mems.length
      have h7 : (seqV (strB (strA a) s data)).mems = (recV (strA a) (slotV (strA a).seq) (putR (strA a).seq s data)).mems := rfl
      unfold datV
      rw [h7] at h6 ⊢
      rw [hl2, hl] at h6
      rw [hl2, hl]
      omega
theorem wrR_tot (a : ArrV) (s : Int) (data : List Int) (hd : data.length ≤ 1048576) : totMS (wrR a s data).1.mems + totW (wrR a s data).1.dirty ≤ totMS a.mems + totW a.dirty + a.mems.length * 1048600 := by
  unfold wrR
  split
  · exact strV_tot a s data hd
  · show totMS a.mems + totW a.dirty ≤ _
    omega
end
/-- The program's list of words, made step by step. -/
def wlist (n s x : Int) (data : List Int) : Nat → List Int
  | 0 => (List.replicate n.toNat 0).set (parN n s).toNat x
  | i + 1 => (wlist n s x data i).set (diskN n s (i : Int)).toNat (data.getD i 0)
theorem wlist_len (n s x : Int) (data : List Int) : ∀ i, (wlist n s x data i).length = n.toNat
  | 0 => by simp [wlist]
  | i + 1 => by rw [wlist, List.length_set, wlist_len]
theorem wlist_get {n s : Int} {data : List Int} (hn : 3 ≤ n ∧ n ≤ 5) (hd : (data.length : Int) = n - 1) {m : Nat} (hm : (m : Int) < n) :
    (wlist n s (xorL 0 data) data data.length)[m]? = some (wordW n s data m) := by
  obtain ⟨hp0, hp1⟩ := parN_in (st := s) hn
  unfold wordW
  generalize xorL 0 data = x
  have e0 : ∀ i : Int, diskN n s i = (parN n s + 1 + i) % n := fun i => rfl
  have hw : ∀ i, wlist n s x data i = (List.range i).foldl (fun l (j : Nat) => l.set ((parN n s + 1 + (j : Int)) % n).toNat (data.getD j 0)) ((List.replicate n.toNat 0).set (parN n s).toNat x) := by
    intro i
    induction i with
    | zero => rfl
    | succ i ih => rw [wlist, ih, List.range_succ, List.foldl_append, e0]; rfl
  rw [hw]
  generalize parN n s = p at *
  obtain rfl | rfl | rfl : n = 3 ∨ n = 4 ∨ n = 5 := by omega
  · obtain ⟨d0, d1, rfl⟩ : ∃ d0 d1, data = [d0, d1] := by
      rcases data with _ | ⟨d0, _ | ⟨d1, _ | ⟨d2, l⟩⟩⟩ <;> simp at hd
      · exact ⟨d0, d1, rfl⟩
      · omega
    obtain rfl | rfl | rfl : p = 0 ∨ p = 1 ∨ p = 2 := by omega
    all_goals (obtain rfl | rfl | rfl : m = 0 ∨ m = 1 ∨ m = 2 := by omega) <;> first | rfl | (simp [List.range_succ, List.replicate_succ]; done) | (simp [List.range_succ, List.replicate_succ]; rfl)
  · obtain ⟨d0, d1, d2, rfl⟩ : ∃ d0 d1 d2, data = [d0, d1, d2] := by
      rcases data with _ | ⟨d0, _ | ⟨d1, _ | ⟨d2, _ | ⟨d3, l⟩⟩⟩⟩ <;> simp at hd
      · exact ⟨d0, d1, d2, rfl⟩
      · omega
    obtain rfl | rfl | rfl | rfl : p = 0 ∨ p = 1 ∨ p = 2 ∨ p = 3 := by omega
    all_goals (obtain rfl | rfl | rfl | rfl : m = 0 ∨ m = 1 ∨ m = 2 ∨ m = 3 := by omega) <;> first | rfl | (simp [List.range_succ, List.replicate_succ]; done) | (simp [List.range_succ, List.replicate_succ]; rfl)
  · obtain ⟨d0, d1, d2, d3, rfl⟩ : ∃ d0 d1 d2 d3, data = [d0, d1, d2, d3] := by
      rcases data with _ | ⟨d0, _ | ⟨d1, _ | ⟨d2, _ | ⟨d3, _ | ⟨d4, l⟩⟩⟩⟩⟩ <;> simp at hd
      · exact ⟨d0, d1, d2, d3, rfl⟩
      · omega
    obtain rfl | rfl | rfl | rfl | rfl : p = 0 ∨ p = 1 ∨ p = 2 ∨ p = 3 ∨ p = 4 := by omega
    all_goals (obtain rfl | rfl | rfl | rfl | rfl : m = 0 ∨ m = 1 ∨ m = 2 ∨ m = 3 ∨ m = 4 := by omega) <;> first | rfl | (simp [List.range_succ, List.replicate_succ]; done) | (simp [List.range_succ, List.replicate_succ]; rfl)
end Go.Proofs.YtggmifnblcjdfaaGreat.AStrV
