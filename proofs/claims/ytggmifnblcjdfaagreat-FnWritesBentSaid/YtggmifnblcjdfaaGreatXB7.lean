/- Own text: MSpoilV MSpoilW MValB DInv AWord AWords AData DAt DPut DGeo DEnd DSet. -/
import Derived.Test.YtggmifnblcjdfaaGreatXB3
import Derived.Lib.SlicesCompact
import Derived.Test.YtggmifnblcjdfaaGreatXB2
import Derived.Test.YtggmifnblcjdfaaGreatXB6
import Derived.Test.YtggmifnblcjdfaaGreatXB5
import Derived.Test.YtggmifnblcjdfaaGreatXAOkA
import Derived.Test.YtggmifnblcjdfaaGreatXAOkD
import Derived.Test.YtggmifnblcjdfaaGreatXABun4
set_option linter.unusedVariables false
set_option linter.unusedSimpArgs false
namespace Go.Proofs.YtggmifnblcjdfaaGreat
namespace MSpoilV
open Go.RowKit MInt MKinds MOk MVal
theorem insN_split (n : Int) : ∀ (p q : List Int), (∀ x ∈ p, x < n) → (∀ x ∈ q, ¬ x < n) → insN n (p ++ q) = p ++ n :: q
 | [], [], _, _ => rfl
 | [], x :: q, _, h => by simp [insN, h x (by simp)]
 | x :: p, q, h, k => by
  have hx := h x (by simp)
  simp only [List.cons_append, insN, if_pos hx, insN_split n p q (fun y hy => h y (by simp [hy])) k]
theorem bads_step {n : Nat} {l : List Int} (h : badsB n l = true) {i : Nat} (hi : i + 1 < l.length) : l.getD i 0 < l.getD (i + 1) 0 := by
 have h1 := List.all_eq_true.1 h (i + 1) (List.mem_range.2 hi)
 simp [badB] at h1
 exact by simpa using h1.2
theorem bads_le {n : Nat} {l : List Int} (h : badsB n l = true) : ∀ (d i : Nat), i + d < l.length → l.getD i 0 ≤ l.getD (i + d) 0
 | 0, i, _ => Int.le_refl _
 | d + 1, i, hi => by
  have h1 := bads_le h d i (by omega)
  have h2 := bads_step h (i := i + d) (by omega)
  have h3 : i + d + 1 = i + (d + 1) := by omega
  rw [h3] at h2
  omega
theorem take_lt {m : Nat} {l : List Int} (h : badsB m l = true) {n : Int} (hn : hasN l n = false) {k : Nat} (hk : k ≤ l.length) (hb : k = 0 ∨ l.getD (k - 1) 0 ≤ n) : ∀ x ∈ l.take k, x < n := by
 intro x hx
 obtain ⟨i, hi, rfl⟩ := List.mem_take_iff_getElem.1 hx
 have hik : i < k := by omega
 have hil : i < l.length := by omega
 have h1 := bads_le h (k - 1 - i) i (by omega)
 have h2 : i + (k - 1 - i) = k - 1 := by omega
 rw [h2] at h1
 have h3 : l.getD i 0 = l[i] := by simp [hil]
 have h4 : l[i] ≠ n := by
  intro e
  have : hasN l n = true := by unfold hasN; simp; exact e ▸ List.getElem_mem hil
  rw [hn] at this; cases this
 rcases hb with hb | hb
 ·omega
 ·omega
end MSpoilV
namespace MSpoilW
open Go.RowKit MInt MKinds MOk MVal MSpoilV
theorem bads_pair {n : Nat} {l : List Int} (h : badsB n l = true) : l.Pairwise (· < ·) := by
 rw [List.pairwise_iff_getElem]
 intro i j hi hj hij
 have h1 := bads_step h (i := i) (by omega)
 have h2 := bads_le h (j - (i + 1)) (i + 1) (by omega)
 have h3 : i + 1 + (j - (i + 1)) = j := by omega
 rw [h3] at h2
 have e1 : l.getD i 0 = l[i] := by simp [hi]
 have e2 : l.getD j 0 = l[j] := by simp [hj]
 omega
theorem insN_mem (n x : Int) : ∀ l : List Int, x ∈ insN n l ↔ x = n ∨ x ∈ l
 | [] => by simp [insN]
 | y :: l => by
  unfold insN
  split
  ·rw [List.mem_cons, insN_mem n x l, List.mem_cons]
   constructor
   ·rintro (h | h | h) <;> simp [h]
   ·rintro (h | h | h) <;> simp [h]
  ·simp
theorem insN_pair (n : Int) : ∀ l : List Int, l.Pairwise (· < ·) → n ∉ l → (insN n l).Pairwise (· < ·)
 | [], _, _ => by simp [insN]
 | y :: l, h, hn => by
  rw [List.pairwise_cons] at h
  simp only [List.mem_cons, not_or] at hn
  unfold insN
  split
  ·rename_i hy
   rw [List.pairwise_cons]
   refine ⟨fun z hz => ?_, insN_pair n l h.2 hn.2⟩
   rcases (insN_mem n z l).1 hz with rfl | hz
   ·exact hy
   ·exact h.1 z hz
  ·rename_i hy
   rw [List.pairwise_cons, List.pairwise_cons]
   refine ⟨fun z hz => ?_, h⟩
   rcases List.mem_cons.1 hz with rfl | hz
   ·have := hn.1; omega
   ·have := h.1 z hz; have := hn.1; omega
theorem hasN_mem {l : List Int} {n : Int} : hasN l n = true ↔ n ∈ l := by
 unfold hasN
 simp
end MSpoilW
namespace MValB
open Go.RowKit MInt MKinds MOk MVal MPut MSpoilV MSpoilW
theorem memB_mk {m : MemV} (h1 : ∀ x ∈ m.secs, secB x = true) (h2 : ∀ e ∈ m.cache, wrB m.secs.length e = true) (h3 : badsB m.secs.length m.bad = true) (h4 : 1 ≤ m.secs.length ∧ m.secs.length ≤ 20) (h5 : m.cache.length ≤ 60) : memB m = true := by
 simp only [memB, Bool.and_eq_true, List.all_eq_true, decide_eq_true_eq, inR]
 exact ⟨h1, h2, h3, by omega, h5⟩
theorem memB_small {m : MemV} (h : memB m = true) : Small m := by
 obtain ⟨h1, h2, h3, h4, h5⟩ := memB_parts h
 refine ⟨by omega, fun x hx => ?_, by omega, fun e he => ?_, ?_⟩
 ·have := h1 x hx; simp [secB] at this; omega
 ·have := wrB_at (h2 e he); obtain ⟨k, _, _, h6⟩ := this; simp [secB] at h6; omega
 ·have hp := bads_pair h3
  have hin : ∀ x ∈ m.bad, 0 ≤ x ∧ x < (m.secs.length : Int) := fun x hx => by
   obtain ⟨i, hi, rfl⟩ := List.getElem_of_mem hx
   have := List.all_eq_true.1 h3 i (List.mem_range.2 hi)
   simp [badB, inR, hi] at this
   omega
  have key : ∀ (l : List Int) (a : Int), l.Pairwise (· < ·) → (∀ x ∈ l, a ≤ x ∧ x < (m.secs.length : Int)) → (l.length : Int) ≤ (m.secs.length : Int) - a ∨ l = [] := by
   intro l
   induction l with
   | nil => intro a _ _; exact .inr rfl
   | cons y l ih =>
    intro a hp hx
    rw [List.pairwise_cons] at hp
    have hy := hx y (by simp)
    rcases ih (y + 1) hp.2 (fun x hx' => ⟨by have := hp.1 x hx'; omega, (hx x (by simp [hx'])).2⟩) with h | h
    ·left; rw [List.length_cons]; omega
    ·subst h; left; simp; omega
  rcases key m.bad 0 hp hin with h | h
  ·omega
  ·rw [h]; simp
theorem memB_new {n : Int} (h : 1 ≤ n ∧ n ≤ 20) : memB (newV n) = true := by
 have hn : inR n 1 20 = true := by simp [inR]; omega
 unfold newV
 rw [if_pos hn]
 refine memB_mk ?_ (by simp) (by simp [badsB]) (by simp; omega) (by simp)
 intro x hx
 simp only [List.mem_replicate] at hx
 rw [hx.2]; simp [secB]
theorem mem_putW {secs : List (List Int)} {e : Int × List Int} {P : List Int → Prop} (h : ∀ x ∈ secs, P x) (he : P e.2) : ∀ x ∈ putW secs e, P x := by
 intro x hx
 rcases List.mem_or_eq_of_mem_set hx with h1 | h1
 ·exact h x h1
 ·rw [h1]; exact he
theorem mem_foldPut {P : List Int → Prop} : ∀ (l : List (Int × List Int)) (secs : List (List Int)), (∀ x ∈ secs, P x) → (∀ e ∈ l, P e.2) → ∀ x ∈ l.foldl putW secs, P x
 | [], secs, h, _ => h
 | e :: l, secs, h, hl => mem_foldPut l _ (mem_putW h (hl e (by simp))) (fun e' he' => hl e' (by simp [he']))
theorem memB_flush {m : MemV} (h : memB m = true) : memB (flushV m) = true := by
 unfold flushV
 split
 ·obtain ⟨h1, h2, h3, h4, h5⟩ := memB_parts h
  refine memB_mk ?_ (by simp) (by simpa [foldPut_len] using h3) (by simpa [foldPut_len] using h4) (by simp)
  exact mem_foldPut _ _ h1 (fun e he => (wrB_at (h2 e he)).choose_spec.2.2)
 ·exact h
theorem badsB_iff {n : Nat} {l : List Int} : badsB n l = true ↔ l.Pairwise (· < ·) ∧ ∀ x ∈ l, 0 ≤ x ∧ x < (n : Int) := by
 constructor
 ·intro h
  refine ⟨bads_pair h, fun x hx => ?_⟩
  obtain ⟨i, hi, rfl⟩ := List.getElem_of_mem hx
  have := List.all_eq_true.1 h i (List.mem_range.2 hi)
  simp [badB, inR, hi] at this
  omega
 ·rintro ⟨hp, hx⟩
  unfold badsB
  rw [List.all_eq_true]
  intro i hi
  rw [List.mem_range] at hi
  have h1 := hx l[i] (List.getElem_mem hi)
  unfold badB
  have e1 : l.getD i 0 = l[i] := by simp [hi]
  rw [e1]
  by_cases h0 : i = 0
  ·subst h0
   simp [inR]; omega
  ·have e2 : l.getD (i - 1) 0 = l[i - 1] := by simp [show i - 1 < l.length by omega]
   have h2 := List.pairwise_iff_getElem.1 hp (i - 1) i (by omega) hi (by omega)
   rw [e2]
   simp [inR, h2]; omega
theorem memB_write {m : MemV} (h : memB m = true) (n : Int) (s : List Int) : memB (writeV m n s) = true := by
 unfold writeV
 split
 ·rename_i hc
  obtain ⟨h1, h2, h3, h4, h5⟩ := memB_parts h
  have hc2 : inR n 0 ((m.secs.length : Int) - 1) = true ∧ secB s = true ∧ m.cache.length < 60 := by
   simp only [canWrite, Bool.and_eq_true, decide_eq_true_eq] at hc
   exact ⟨hc.2.2.1, hc.2.2.2.1, hc.2.2.2.2⟩
  refine memB_mk h1 (fun e he => ?_) ?_ h4 (by simp; omega)
  ·rcases List.mem_append.1 he with he | he
   ·exact h2 e he
   ·simp only [List.mem_singleton] at he
    subst he
    simp [wrB, hc2.1, hc2.2.1]
  ·rw [badsB_iff] at h3 ⊢
   exact ⟨h3.1.sublist List.filter_sublist, fun x hx => h3.2 x (List.mem_filter.1 hx).1⟩
 ·exact h
theorem memB_spoil {m : MemV} (h : memB m = true) (n : Int) : memB (spoilV m n) = true := by
 unfold spoilV
 split
 ·rename_i hc
  obtain ⟨h1, h2, h3, h4, h5⟩ := memB_parts h
  simp only [Bool.and_eq_true, Bool.not_eq_true'] at hc
  refine memB_mk h1 h2 ?_ h4 h5
  rw [badsB_iff] at h3 ⊢
  refine ⟨insN_pair n _ h3.1 (fun hm => ?_), fun x hx => ?_⟩
  ·have := hasN_mem.2 hm; rw [hc.2.2] at this; cases this
  ·rcases (insN_mem n x _).1 hx with rfl | hx
   ·have := hc.2.1; simp [inR] at this; show 0 ≤ x ∧ x < (m.secs.length : Int); omega
   ·exact h3.2 x hx
 ·exact h
theorem writeV_failed (m : MemV) (n : Int) (s : List Int) : (writeV m n s).failed = m.failed := by unfold writeV; split <;> rfl
theorem spoilV_failed (m : MemV) (n : Int) : (spoilV m n).failed = m.failed := by unfold spoilV; split <;> rfl
theorem flushV_failed (m : MemV) : (flushV m).failed = m.failed := by unfold flushV; split <;> rfl
theorem flushV_cache {m : MemV} (h : memB m = true) (hf : m.failed = false) : (flushV m).cache.length = 0 := by unfold flushV; rw [h, hf]; rfl
theorem spoilV_cache (m : MemV) (n : Int) : (spoilV m n).cache = m.cache := by unfold spoilV; split <;> rfl
theorem writeV_cache (m : MemV) (n : Int) (s : List Int) : (writeV m n s).cache.length ≤ m.cache.length + 1 := by unfold writeV; split <;> simp
def Tiny (m : MemV) : Prop := m.secs.length ≤ 20 ∧ (∀ x ∈ m.secs, x.length ≤ 13) ∧ m.cache.length ≤ 100 ∧ (∀ e ∈ m.cache, e.2.length ≤ 13) ∧ m.bad.length ≤ 100
theorem tiny_small {m : MemV} (h : Tiny m) : Small m := ⟨by have := h.1; omega, fun x hx => by have := h.2.1 x hx; omega, by have := h.2.2.1; omega, fun e he => by have := h.2.2.2.1 e he; omega, by have := h.2.2.2.2; omega⟩
theorem bads_len {n : Nat} {l : List Int} (h : badsB n l = true) : l.length ≤ n := by
 rw [badsB_iff] at h
 have key : ∀ (l : List Int) (a : Int), l.Pairwise (· < ·) → (∀ x ∈ l, a ≤ x ∧ x < (n : Int)) → (l.length : Int) ≤ (n : Int) - a ∨ l = [] := by
  intro l
  induction l with
  | nil => intro a _ _; exact .inr rfl
  | cons y l ih =>
   intro a hp hx
   rw [List.pairwise_cons] at hp
   have hy := hx y (by simp)
   rcases ih (y + 1) hp.2 (fun x hx' => ⟨by have := hp.1 x hx'; omega, (hx x (by simp [hx'])).2⟩) with h | h
   ·left; rw [List.length_cons]; omega
   ·subst h; left; simp; omega
 rcases key l 0 h.1 h.2 with h | h
 ·omega
 ·rw [h]; simp
theorem memB_tiny {m : MemV} (h : memB m = true) : Tiny m := by
 obtain ⟨h1, h2, h3, h4, h5⟩ := memB_parts h
 refine ⟨by omega, fun x hx => ?_, by omega, fun e he => ?_, ?_⟩
 ·have := h1 x hx; simp [secB] at this; omega
 ·have := wrB_at (h2 e he); obtain ⟨k, _, _, h6⟩ := this; simp [secB] at h6; omega
 ·have := bads_len h3; omega
end MValB
namespace DInv
open Go.RowKit MKinds MRead MPut MHeld MOk MInt MVal MSuper LawLib AKinds AMark AOpV ASyncF AMarkV ALive AXor AGeo MRec AMarkF AOkA AStrV MValB
def Dk (n : Int) (m : MemV) : Prop := Small m ∧ (m.secs.length : Int) = n
theorem dk_write {n k : Int} {m : MemV} {xs : List Int} (hx : xs.length ≤ 16777216) (h : Dk n m) : Dk n (writeV m k xs) := by
 refine ⟨small_write h.1 hx, ?_⟩
 rw [← h.2]; unfold writeV; split <;> rfl
theorem dk_flush {n : Int} {m : MemV} (h : Dk n m) : Dk n (flushV m) := by
 refine ⟨small_flush h.1, ?_⟩
 rw [← h.2]; unfold flushV; split
 ·rw [foldPut_len]
 ·rfl
theorem dk_fail {n : Int} {m : MemV} (h : Dk n m) : Dk n (failV m) := ⟨⟨h.1.1, h.1.2.1, by simp [failV], by simp [failV], h.1.2.2.2.2⟩, h.2⟩
theorem dk_spoil {n k : Int} {m : MemV} (h : Dk n m) : Dk n (spoilV m k) := by
 have hs : (spoilV m k).secs = m.secs := by unfold spoilV; split <;> rfl
 refine ⟨?_, by rw [hs]; exact h.2⟩
 by_cases hm : memB m = true
 ·exact memB_small (memB_spoil hm k)
 ·have : spoilV m k = m := by unfold spoilV; rw [show memB m = false by simpa using hm]; rfl
  rw [this]; exact h.1
theorem dk_new {n : Int} (h : 1 ≤ n ∧ n ≤ 20) : Dk n (newV n) := by
 unfold newV
 rw [if_pos (by simp [inR]; omega)]
 refine ⟨⟨by simp; omega, ?_, by simp, by simp, by simp⟩, by simp; omega⟩
 intro x hx
 obtain ⟨_, rfl⟩ := List.mem_replicate.1 hx
 simp
structure Fit (b d : Int) (a : ArrV) : Prop where
 geo : geoB a.gn a.gs = true
 len : (a.mems.length : Int) = a.gn
 dk : ∀ m ∈ a.mems, Dk (6 + a.gs) m
 lost : -1 ≤ a.lost ∧ a.lost < a.gn
 built : 0 ≤ a.built ∧ a.built ≤ a.gs
 seq : 0 ≤ a.seq ∧ a.seq ≤ b
 tail : 0 ≤ a.tail ∧ a.tail ≤ b
 gen : 0 ≤ a.gen ∧ a.gen ≤ b
 dl : (a.dirty.length : Int) ≤ d
 de : ∀ e ∈ a.dirty, (e.2.length : Int) = a.gn - 1
 fuse : a.fuse = -1
 down : a.down = false
 brok : a.broken = false
theorem Fit.n {b d : Int} {a : ArrV} (h : Fit b d a) : (3 ≤ a.gn ∧ a.gn ≤ 5) ∧ 1 ≤ a.gs ∧ a.gs ≤ 8 := by
 have h1 := h.geo; simp [geoB, inR] at h1; omega
theorem Fit.small {b d : Int} {a : ArrV} (h : Fit b d a) (hd : d ≤ 16777216) : SmallA a := by
 have h1 := h.n; have h2 := h.len; have h3 := h.dl
 refine ⟨by omega, fun m hm => (h.dk m hm).1, by omega, fun e he => ?_⟩
 have := h.de e he; omega
theorem Fit.le {b d b' d' : Int} {a : ArrV} (h : Fit b d a) (hb : b ≤ b') (hd : d ≤ d') : Fit b' d' a :=
 ⟨h.geo, h.len, h.dk, h.lost, h.built, ⟨h.seq.1, by have := h.seq; omega⟩, ⟨h.tail.1, by have := h.tail; omega⟩, ⟨h.gen.1, by have := h.gen; omega⟩, by have := h.dl; omega, h.de, h.fuse, h.down, h.brok⟩
theorem Fit.small1 {b d : Int} {a : ArrV} (h : Fit b d a) : a.mems.length ≤ 16777216 := by have := h.n; have := h.len; omega
theorem Fit.small2 {b d : Int} {a : ArrV} (h : Fit b d a) : ∀ m ∈ a.mems, Small m := fun m hm => (h.dk m hm).1
def Calm (a : ArrV) : Prop := a.fuse = -1 ∧ a.down = false
theorem opV_calm {a : ArrV} (h : Calm a) : opV a = a := by
 unfold opV; rw [h.2, h.1]; rfl
theorem turn_calm {a : ArrV} (h : Calm a) (i : Nat) (f : MemV → MemV) : Calm (turnV a i f) := by
 unfold turnV
 split
 ·split
  ·exact h
  ·split
   ·rw [opV_calm h]; exact h
   ·rw [opV_calm h]; exact h
 ·exact h
theorem syncN_calm {a : ArrV} (h : Calm a) : ∀ i, Calm (syncN a i)
 | 0 => h
 | i + 1 => turn_calm (syncN_calm h i) _ _
theorem putN_calm {a : ArrV} (h : Calm a) : ∀ i, Calm (putN a i)
 | 0 => h
 | i + 1 => turn_calm (putN_calm h i) _ _
theorem putA_calm {a : ArrV} {k : Int} {xs : List Int} (h : Calm a) : ∀ i, Calm (putA a k xs i)
 | 0 => h
 | i + 1 => turn_calm (putA_calm h i) _ _
theorem datN_calm {a : ArrV} {s : Int} {xs : List Int} (h : Calm a) : ∀ i, Calm (datN a s xs i)
 | 0 => h
 | i + 1 => by
  rw [datN]; split
  ·exact turn_calm (datN_calm h i) _ _
  ·exact datN_calm h i
def AllD (n : Int) (a : ArrV) : Prop := ∀ m ∈ a.mems, Dk n m
theorem syncN_all {n : Int} {a : ArrV} (h : AllD n a) : ∀ i, AllD n (syncN a i)
 | 0 => h
 | i + 1 => turnV_all (syncN_all h i) (fun m hm => dk_flush hm)
theorem putN_all {n : Int} {a : ArrV} (h : AllD n a) : ∀ i, AllD n (putN a i)
 | 0 => h
 | i + 1 => turnV_all (putN_all h i) (fun m hm => dk_write (by have := putSup_len (supOf a i); omega) hm)
theorem putA_all {n k : Int} {xs : List Int} {a : ArrV} (hx : xs.length ≤ 16777216) (h : AllD n a) : ∀ i, AllD n (putA a k xs i)
 | 0 => h
 | i + 1 => turnV_all (putA_all hx h i) (fun m hm => dk_write hx hm)
theorem datN_all {n s : Int} {xs : List Int} {a : ArrV} (h : AllD n a) : ∀ i, AllD n (datN a s xs i)
 | 0 => h
 | i + 1 => by
  rw [datN]; split
  ·exact turnV_all (datN_all h i) (fun m hm => dk_write (by simp) hm)
  ·exact datN_all h i
section
variable {b d : Int} {a c : ArrV}
theorem good_same (h : Fit b d a) (s : Same a c) (hD : AllD (6 + a.gs) c) (hc : Calm c) : Fit b d c :=
 ⟨by rw [s.gn, s.gs]; exact h.geo, by rw [s.gn, s.len]; exact h.len, by rw [s.gs]; exact hD, by rw [s.lost, s.gn]; exact h.lost, by rw [s.built, s.gs]; exact h.built, by rw [s.seq]; exact h.seq, by rw [s.tail]; exact h.tail, by rw [s.gen]; exact h.gen, by rw [s.dirty]; exact h.dl, by rw [s.dirty, s.gn]; exact h.de, hc.1, hc.2, by rw [s.broken]; exact h.brok⟩
theorem Fit.calm (h : Fit b d a) : Calm a := ⟨h.fuse, h.down⟩
theorem good_sync (h : Fit b d a) : Fit b d (syncV a) := good_same h (syncV_same a) (syncN_all h.dk _) (syncN_calm h.calm _)
theorem good_gen (h : Fit b d a) : Fit (b + 1) d (genV a) :=
 ⟨h.geo, h.len, h.dk, h.lost, h.built, ⟨h.seq.1, by have := h.seq; show a.seq ≤ _; omega⟩, ⟨h.tail.1, by have := h.tail; show a.tail ≤ _; omega⟩, ⟨by have := h.gen; show 0 ≤ a.gen + 1; omega, by have := h.gen; show a.gen + 1 ≤ _; omega⟩, h.dl, h.de, h.fuse, h.down, h.brok⟩
theorem good_mark (h : Fit b d a) : Fit (b + 1) d (markV a) := by
 have h1 := good_gen h
 unfold markV
 exact good_sync (good_same h1 (putN_same (genV a) _) (putN_all h1.dk _) (putN_calm h1.calm _))
theorem good_tail (h : Fit b d a) : Fit b d (tailV a) := ⟨h.geo, h.len, h.dk, h.lost, h.built, h.seq, h.seq, h.gen, h.dl, h.de, h.fuse, h.down, h.brok⟩
theorem good_check (h : Fit b d a) : Fit (b + 1) d (checkV a) := by
 have h1 := good_sync h
 unfold checkV
 rw [if_neg (by rw [h1.down]; simp)]
 exact good_mark (good_tail h1)
theorem good_rec {k : Int} {xs : List Int} (hx : xs.length ≤ 16777216) (h : Fit b d a) : Fit b d (recV a k xs) := by
 unfold recV
 exact good_sync (good_same h (putA_same a k xs _) (putA_all hx h.dk _) (putA_calm h.calm _))
theorem good_dat {s : Int} {xs : List Int} (h : Fit b d a) : Fit b d (datV a s xs) := good_same h (datN_same a s xs _) (datN_all h.dk _) (datN_calm h.calm _)
theorem good_seq (h : Fit b d a) : Fit (b + 1) d (seqV a) :=
 ⟨h.geo, h.len, h.dk, h.lost, h.built, ⟨by have := h.seq; show 0 ≤ a.seq + 1; omega, by have := h.seq; show a.seq + 1 ≤ _; omega⟩, ⟨h.tail.1, by have := h.tail; show a.tail ≤ _; omega⟩, ⟨h.gen.1, by have := h.gen; show a.gen ≤ _; omega⟩, h.dl, h.de, h.fuse, h.down, h.brok⟩
theorem good_str {s : Int} {xs : List Int} (hx : xs.length ≤ 1048576) (h : Fit b d a) : Fit (b + 2) d (strV a s xs) := by
 have h1 : Fit (b + 1) d (strA a) := by
  unfold strA; split
  ·exact good_check h
  ·exact h.le (by omega) (by omega)
 have h2 : Fit (b + 1) d (strB (strA a) s xs) := by
  unfold strB
  exact good_rec (by have := putR_len (strA a).seq s xs; omega) h1
 unfold strV
 rw [if_neg (by rw [h1.down]; simp), if_neg (by rw [h2.down]; simp)]
 exact (good_dat (good_seq h2)).le (by omega) (by omega)
theorem strV_dirty (a : ArrV) (s : Int) (xs : List Int) : (strV a s xs).dirty = a.dirty := (strV_most_seq a s xs).1
theorem good_dirty (h : Fit b d a) {d' : Int} {l : List (Int × List Int)} (hl : (l.length : Int) ≤ d') (he : ∀ e ∈ l, (e.2.length : Int) = a.gn - 1) : Fit b d' { a with dirty := l } :=
 ⟨h.geo, h.len, h.dk, h.lost, h.built, h.seq, h.tail, h.gen, hl, he, h.fuse, h.down, h.brok⟩
theorem good_put {i : Nat} {k : Int} {xs : List Int} (hx : xs.length ≤ 16777216) (h : Fit b d a) : Fit b d (putV a i k xs) := good_same h (turnV_same _ _ _) (turnV_all h.dk (fun m hm => dk_write hx hm)) (turn_calm h.calm _ _)
theorem good_set {i : Nat} {m : MemV} (hm : Dk (6 + a.gs) m) (h : Fit b d a) : Fit b d { a with mems := a.mems.set i m } := by
 refine ⟨h.geo, by simpa using h.len, ?_, h.lost, h.built, h.seq, h.tail, h.gen, h.dl, h.de, h.fuse, h.down, h.brok⟩
 intro x hx
 rcases List.mem_or_eq_of_mem_set hx with hx | rfl
 ·exact h.dk x hx
 ·exact hm
theorem good_lost {n : Int} (hn : -1 ≤ n ∧ n < a.gn) (h : Fit b d a) : Fit b d { a with lost := n, built := 0 } :=
 ⟨h.geo, h.len, h.dk, hn, ⟨Int.le_refl 0, by have := h.n; show 0 ≤ a.gs; omega⟩, h.seq, h.tail, h.gen, h.dl, h.de, h.fuse, h.down, h.brok⟩
theorem good_built {n : Int} (hn : 0 ≤ n ∧ n ≤ a.gs) (h : Fit b d a) : Fit b d { a with built := n } :=
 ⟨h.geo, h.len, h.dk, h.lost, hn, h.seq, h.tail, h.gen, h.dl, h.de, h.fuse, h.down, h.brok⟩
end
end DInv
namespace AWord
open Go.RowKit RJ RP Go.Proofs.YtggmifnblcjdfaaGreatW.PrintWords Fp FpStep MInt MKinds MRead MMake MPut MHeld MOk MSuper Go.Proofs.YtggmifnblcjdfaaGreat.Sep SepStep AKinds AMake AEnt ALaw AArr AOk MVal MReadS ALive AXor
def wordOk (a : ArrV) (q : Nat) (s : Int) : Bool := liveB a (q : Int) s && (canRead (a.mems.getD q noMem) (dataV s) && (readV (a.mems.getD q noMem) (dataV s)).length == 1)
def wordV (a : ArrV) (q : Nat) (s : Int) : Int × Bool := if wordOk a q s then ((readV (a.mems.getD q noMem) (dataV s)).getD 0 0, true) else (0, false)
theorem wordV_no {a : ArrV} {q : Nat} {s : Int} (h : wordOk a q s = false) : wordV a q s = (0, false) := by unfold wordV; rw [h]; rfl
theorem World_add0 (ad : Addr) : ad.add 0 = ad := by cases ad; rfl
set_option maxHeartbeats 4000000 in
set_option maxRecDepth 100000 in
theorem c_specWord {w : World} {v : Value} {a : ArrV} {q : Nat} {s : Int} (h : ArrR w v a) (hsm : SmallA a) (hq : q < a.mems.length) :
  Calls Tryz.prog 181 #[v, .int .i64 (q : Int), .int .i64 s] w fun e w' => e = .returned (.tuple #[.int .i64 (wordV a q s).1, .bool (wordV a q s).2]) ∧ Below w.heap.size w w' := by
 have H := Aside0.mk h
 have HSM := Aside0.mk hsm
 obtain ⟨vm, vd, rfl, r1, r2⟩ := h
 obtain ⟨ad, cap, rfl, hc⟩ := RK_mems r1 (by omega)
 obtain ⟨x, hx⟩ : ∃ x, a.mems[q]? = some x := ⟨_, List.getElem?_eq_getElem hq⟩
 obtain ⟨B1, d1, B2, d2, B3, d3, x0, x1, x2, x3, hM⟩ := hc q x hx
 have HX := Aside0.mk (show a.mems.getD q noMem = x by rw [List.getD_eq_getElem?_getD, hx]; rfl)
 have hxs := hsm.2.1 x (List.mem_of_getElem? hx)
 have HXS := Aside0.mk hxs
 have RM := Aside0.mk hM
 have lm := RK_len r1
 have i0 : (0 : Int) ≤ (q : Int) := by omega
 have il : (q : Int) < (a.mems.length : Int) := by omega
 have hs0 := (Sep.start w []).alloc (g := w.heap.size) rfl (arrC a (.slice (some ad) a.mems.length cap) vd) 34
 replace x0 := hs0.old x0
 replace x1 := hs0.old x1
 replace x2 := hs0.old x2
 replace x3 := hs0.old x3
 have H0 := Aside0.mk hs0
 clear hs0 hc hM r1 r2 hsm hxs hx
 generalize hxf : x.failed = xf at *
 have HXF := Aside0.mk hxf
 clear hxf
 generalize hlv : liveB a (q : Int) s = lv
 have HLV := Aside0.mk hlv
 clear hlv
 generalize hcr : canRead x (dataV s) = cr
 have HCR := Aside0.mk hcr
 clear hcr
 generalize hrd : readV x (dataV s) = rd
 have HRD := Aside0.mk hrd
 clear hrd
 have HNO : ∀ b, (lv && (cr && rd.length == 1)) = b → wordOk a q s = b := fun b hb => by unfold wordOk; rw [HX.out, HLV.out, HCR.out, HRD.out]; exact hb
 replace HNO := Aside0.mk HNO
 have HYES : wordOk a q s = true → wordV a q s = (rd.getD 0 0, true) := fun h => by unfold wordV; rw [if_pos h, HX.out, HRD.out]
 replace HYES := Aside0.mk HYES
 obtain ⟨id, gn, gs, mems, lost, built, seq, tail, gen, dirty, fuse, down, broken⟩ := a
 simp only [arrC] at *
 have X0 := Aside0.mk (And.intro x0 (And.intro x1 (And.intro x2 x3)))
 clear x0 x1 x2 x3
 have HS := H0
 obtain ⟨k0, k1, k2, k3, k4, k5, k6, k7, k8, k9, k10, k11, k12⟩ := thirteen (HS.out.get 0 rfl)
 cases lv
 ·go_enter Tryz.func181, Tryz.ntmps181
  go_wp2_with (first
   | (go_at_call 122; refine (c_specLiveAt (ArrR_below H.out HS.out.toBelow)).mono ?_; rw [HLV.out]; rintro e wl ⟨rfl, hb⟩; have hs9 := HS.out.below hb; clear hb HS; have HS := Aside0.mk hs9; clear hs9 k0 k1 k2 k3 k4 k5 k6 k7 k8 k9 k10 k11 k12; obtain ⟨k0, k1, k2, k3, k4, k5, k6, k7, k8, k9, k10, k11, k12⟩ := thirteen (HS.out.get 0 rfl))
   | fail)
  go_ret2
  exact ⟨by (rw [wordV_no (HNO.out _ rfl)]) <;> rfl, HS.out.toBelow⟩
 ·go_enter Tryz.func181, Tryz.ntmps181
  go_upto_region 3 with (first
   | (go_at_call 122; refine (c_specLiveAt (ArrR_below H.out HS.out.toBelow)).mono ?_; rw [HLV.out]; rintro e wl ⟨rfl, hb⟩; have HBL := Aside0.mk hb; have hs9 := HS.out.below hb; clear hb HS; have HS := Aside0.mk hs9; clear hs9 k0 k1 k2 k3 k4 k5 k6 k7 k8 k9 k10 k11 k12; obtain ⟨k0, k1, k2, k3, k4, k5, k6, k7, k8, k9, k10, k11, k12⟩ := thirteen (HS.out.get 0 rfl))
   | fail)
  have HM := HS
  obtain ⟨x0, x1, x2, x3⟩ := X0.out
  have hbw : Below (w.alloc (.cells #[.int .i64 id, .int .i64 gn, .int .i64 gs, .slice (some ad) mems.length cap, .int .i64 lost, .int .i64 built, .int .i64 seq, .int .i64 tail, .int .i64 gen, vd, .int .i64 fuse, .bool down, .bool broken] 34 (0, 0))).heap.size (w.alloc (.cells #[.int .i64 id, .int .i64 gn, .int .i64 gs, .slice (some ad) mems.length cap, .int .i64 lost, .int .i64 built, .int .i64 seq, .int .i64 tail, .int .i64 gen, vd, .int .i64 fuse, .bool down, .bool broken] 34 (0, 0))) wl := HBL.out
  replace x0 := (hbw.cell (lt_of_cell x0)).trans x0
  replace x1 := (hbw.cell (lt_of_cell x1)).trans x1
  replace x2 := (hbw.cell (lt_of_cell x2)).trans x2
  replace x3 := (hbw.cell (lt_of_cell x3)).trans x3
  clear hbw HS HBL
  generalize wl = wm at *
  have HALL : ∀ w' : World, Below wm.heap.size wm w' → (w'.cell? ⟨w.heap.size, 0, none⟩ = some (.int .i64 id) ∧ w'.cell? ⟨w.heap.size, 1, none⟩ = some (.int .i64 gn) ∧ w'.cell? ⟨w.heap.size, 2, none⟩ = some (.int .i64 gs) ∧ w'.cell? ⟨w.heap.size, 3, none⟩ = some (.slice (some ad) mems.length cap) ∧ w'.cell? ⟨w.heap.size, 4, none⟩ = some (.int .i64 lost) ∧ w'.cell? ⟨w.heap.size, 5, none⟩ = some (.int .i64 built) ∧ w'.cell? ⟨w.heap.size, 6, none⟩ = some (.int .i64 seq) ∧ w'.cell? ⟨w.heap.size, 7, none⟩ = some (.int .i64 tail) ∧ w'.cell? ⟨w.heap.size, 8, none⟩ = some (.int .i64 gen) ∧ w'.cell? ⟨w.heap.size, 9, none⟩ = some (vd) ∧ w'.cell? ⟨w.heap.size, 10, none⟩ = some (.int .i64 fuse) ∧ w'.cell? ⟨w.heap.size, 11, none⟩ = some (.bool down) ∧ w'.cell? ⟨w.heap.size, 12, none⟩ = some (.bool broken) ∧ w'.cell? (ad.add (q * 4)) = some (.slice B1 x.secs.length d1) ∧ w'.cell? ⟨(ad.add (q * 4)).block, (ad.add (q * 4)).off + 1, none⟩ = some (.slice B2 x.cache.length d2) ∧ w'.cell? ⟨(ad.add (q * 4)).block, (ad.add (q * 4)).off + 2, none⟩ = some (.bool xf) ∧ w'.cell? ⟨(ad.add (q * 4)).block, (ad.add (q * 4)).off + 3, none⟩ = some (.slice B3 x.bad.length d3)) := fun w' hb => ⟨(hb.cell (lt_of_cell k0)).trans k0, (hb.cell (lt_of_cell k1)).trans k1, (hb.cell (lt_of_cell k2)).trans k2, (hb.cell (lt_of_cell k3)).trans k3, (hb.cell (lt_of_cell k4)).trans k4, (hb.cell (lt_of_cell k5)).trans k5, (hb.cell (lt_of_cell k6)).trans k6, (hb.cell (lt_of_cell k7)).trans k7, (hb.cell (lt_of_cell k8)).trans k8, (hb.cell (lt_of_cell k9)).trans k9, (hb.cell (lt_of_cell k10)).trans k10, (hb.cell (lt_of_cell k11)).trans k11, (hb.cell (lt_of_cell k12)).trans k12, (hb.cell (lt_of_cell x0)).trans x0, (hb.cell (lt_of_cell x1)).trans x1, (hb.cell (lt_of_cell x2)).trans x2, (hb.cell (lt_of_cell x3)).trans x3⟩
  replace HALL := Aside0.mk HALL
  clear x0 x1 x2 x3 k0 k1 k2 k3 k4 k5 k6 k7 k8 k9 k10 k11 k12
  refine wp_region_seqp (fun w' => Below wm.heap.size wm w') [] [(0, 2), (2, 2), (5, 2), (1, 1), (3, 2), (4, 1), (6, 0), (7, 0), (8, 2), (9, 2), (10, 2), (11, 0), (12, 0)] (by kernel_rfl) (by kernel_rfl) ?_
  have hS : Below wm.heap.size wm wm.drew := Below.drew (Below.refl _ _)
  repeat ((first | (refine seqp_pure rfl (fun _ _ _ h => h) (by rfl) (fun w_ => by go_simp; first | done | with_reducible rfl) ?_) | (refine seqp_take hS rfl (fun _ _ _ h => h) (by rfl) (fun w_ hSw => by have hSc := HALL.out w_ hSw; clear hSw; go_simp; first | done | with_reducible rfl) ?_) | (refine seqp_skip2 rfl (fun _ _ _ h => h) (by rfl) ?_) | (refine seqp_skip1 hS rfl (fun _ _ _ h => h) (by rfl) ?_) | (refine seqp_skip0 rfl (by rfl) ?_)); (try simp only [Act.put, qqP]))
  refine seqp_step rfl (fun K hK => ?_)
  go_simp
  go_at_call 97; refine (c_specDataAt _ _).mono ?_; rintro e w3 ⟨rfl, hb⟩; replace hb := below_drawn hb
  replace hS := hS.trans (hb.mono hS.size); clear hb; refine hK.out _ _ ⟨fun _ _ => hS, ?_⟩; clear hK K; (try simp only [Act.put, qqP])
  repeat ((first | (refine seqp_pure rfl (fun _ _ _ h => h) (by rfl) (fun w_ => by go_simp; first | done | with_reducible rfl) ?_) | (refine seqp_take hS rfl (fun _ _ _ h => h) (by rfl) (fun w_ hSw => by have hSc := HALL.out w_ hSw; clear hSw; go_simp; first | done | with_reducible rfl) ?_) | (refine seqp_skip2 rfl (fun _ _ _ h => h) (by rfl) ?_) | (refine seqp_skip1 hS rfl (fun _ _ _ h => h) (by rfl) ?_) | (refine seqp_skip0 rfl (by rfl) ?_)); (try simp only [Act.put, qqP]))
  refine seqp_step rfl (fun K hK => ?_)
  go_simp
  go_at_call 184; refine (c_specReadSec (MemR_below (RM.out) (HM.out.below hS).toBelow) HXS.out).mono ?_; rw [HCR.out, HRD.out]; rintro e w4 ⟨u, F, rfl, hn⟩; have hs5 := (HM.out.below hS).new hn; have hb := hn.below; obtain ⟨U, uc, rfl, hul⟩ := O_RK (show oInt.O 3 w4 F u rd from hs5.get 0 rfl)
  replace hS := hS.trans (hb.mono hS.size); clear hb; refine hK.out _ _ ⟨fun _ _ => hS, ?_⟩; clear hK K; (try simp only [Act.put, qqP])
  repeat ((first | (refine seqp_pure rfl (fun _ _ _ h => h) (by rfl) (fun w_ => by go_simp; first | done | with_reducible rfl) ?_) | (refine seqp_take hS rfl (fun _ _ _ h => h) (by rfl) (fun w_ hSw => by have hSc := HALL.out w_ hSw; clear hSw; go_simp; first | done | with_reducible rfl) ?_) | (refine seqp_skip2 rfl (fun _ _ _ h => h) (by rfl) ?_) | (refine seqp_skip1 hS rfl (fun _ _ _ h => h) (by rfl) ?_) | (refine seqp_skip0 rfl (by rfl) ?_)); (try simp only [Act.put, qqP]))
  refine seqp_step rfl (fun K hK => ?_)
  go_simp
  refine hK.out _ _ ⟨fun _ _ => hS, ?_⟩; clear hK K; (try simp only [Act.put, qqP])
  refine seqp_step rfl (fun K hK => ?_)
  go_simp
  refine hK.out _ _ ⟨fun _ _ => hS, ?_⟩; clear hK K; (try simp only [Act.put, qqP])
  clear hS HALL
  have HS := Aside0.mk hs5
  clear hs5 hn hul
  refine seqp_done ?_
  obtain ⟨k0, k1, k2, k3, k4, k5, k6, k7, k8, k9, k10, k11, k12⟩ := thirteen (HS.out.get 1 rfl)
  cases cr
  ·go_wp2
   go_ret2
   exact ⟨by (rw [wordV_no (HNO.out _ rfl)]) <;> rfl, HS.out.toBelow⟩
  ·by_cases hl1 : rd.length = 1
   ·obtain ⟨y, hy1⟩ : ∃ y, rd = [y] := List.length_eq_one_iff.1 hl1
    have hl2 : ((rd.length : Int) != 1) = false := by simp [hl1]
    have h0l : (0 : Int) < (rd.length : Int) := by omega
    obtain ⟨ad2, cap2, hA2, hc2⟩ := ints_at (O_RK (show oInt.O 3 w4 F _ rd from HS.out.get 0 rfl)) (by omega)
    obtain rfl := (Value.slice.inj hA2).1
    have hy := hc2 0 y (by rw [hy1]; rfl)
    rw [World_add0] at hy
    have HYV := Aside0.mk (show wordV (⟨id, gn, gs, mems, lost, built, seq, tail, gen, dirty, fuse, down, broken⟩ : ArrV) q s = (y, true) from by rw [HYES.out (HNO.out _ (by rw [hl1]; rfl)), hy1]; rfl)
    have HL1 := Aside0.mk hl1
    have HY := Aside0.mk hy
    clear hl1 hc2 hA2 hy1
    go_wp2
    go_ret2
    exact ⟨by (rw [HYV.out]) <;> rfl, HS.out.toBelow⟩
   ·have hl2 : ((rd.length : Int) != 1) = true := by simp; omega
    have hl3 : (rd.length == 1) = false := by simp [hl1]
    have HL3 := Aside0.mk hl3
    clear hl1 hl3
    go_wp2
    go_ret2
    exact ⟨by (rw [wordV_no (HNO.out _ (by rw [HL3.out]; rfl))]) <;> rfl, HS.out.toBelow⟩
end AWord
namespace AWords
open Go.RowKit RJ RP Go.Proofs.YtggmifnblcjdfaaGreatW.PrintWords Fp FpStep MInt MKinds MRead MMake MPut MHeld MOk MSuper Go.Proofs.YtggmifnblcjdfaaGreat.Sep SepStep AKinds AMake AEnt ALaw AArr AOk MVal MReadS ALive AXor AWord AOkI AOkA
def wsV (a : ArrV) (s : Int) : Nat → Option (List Int × Int)
 | 0 => some ([], -1)
 | i + 1 => match wsV a s i with
  | none => none
  | some (l, lost) => if (wordV a i s).2 then some (l ++ [(wordV a i s).1], lost) else if 0 ≤ lost then none else some (l ++ [(wordV a i s).1], (i : Int))
def wsEnd : Option (List Int × Int) → List Int × Bool
 | none => ([], false)
 | some (l, lost) => if 0 ≤ lost then (l.set lost.toNat (missV l lost), true) else (l, true)
def wsR (a : ArrV) (s : Int) : List Int × Bool := wsEnd (wsV a s a.mems.length)
theorem wsV_none {a : ArrV} {s : Int} {i : Nat} (h : wsV a s i = none) : ∀ d, wsV a s (i + d) = none
 | 0 => h
 | d + 1 => by rw [← Nat.add_assoc, wsV, wsV_none h d]
theorem wsR_none {a : ArrV} {s : Int} {i : Nat} (h : wsV a s (i + 1) = none) (hi : i < a.mems.length) : wsR a s = ([], false) := by
 have := wsV_none h (a.mems.length - (i + 1))
 rw [show i + 1 + (a.mems.length - (i + 1)) = a.mems.length by omega] at this
 unfold wsR; rw [this]; rfl
theorem wsV_len {a : ArrV} {s : Int} : ∀ (i : Nat) (l : List Int) (k : Int), wsV a s i = some (l, k) → l.length = i
 | 0, l, k, h => by simp [wsV] at h; obtain ⟨rfl, _⟩ := h; rfl
 | i + 1, l, k, h => by
  unfold wsV at h
  cases hq : wsV a s i with
  | none => rw [hq] at h; cases h
  | some p =>
   obtain ⟨l', k'⟩ := p
   have := wsV_len i l' k' hq
   rw [hq] at h
   simp only at h
   split at h
   ·simp at h; obtain ⟨rfl, _⟩ := h; simp [this]
   ·split at h
    ·cases h
    ·simp at h; obtain ⟨rfl, _⟩ := h; simp [this]
set_option maxHeartbeats 4000000 in
set_option maxRecDepth 100000 in
theorem c_specL6Words {w : World} {v : Value} {a : ArrV} {s : Int} (h : ArrR w v a) (hsm : SmallA a) (hlen : (a.mems.length : Int) = a.gn) :
  Calls Tryz.prog 177 #[v, .int .i64 s] w fun e w' => ∃ u F, e = .returned (.tuple #[u, .bool (wsR a s).2]) ∧ New w w' (rw_ oInt 3 F u (wsR a s).1) := by
 have H := Aside0.mk h
 have HSM := Aside0.mk hsm
 have HML := Aside0.mk hsm.1
 obtain ⟨vm, vd, rfl, r1, r2⟩ := h
 obtain ⟨A1, c1, rfl, hl1, _⟩ := id r1
 have lm := RK_len r1
 have hmlb := hsm.1
 clear r1 r2 hl1 hsm
 have HLEN := Aside0.mk hlen
 clear hlen
 have H0 := Aside0.mk ((Sep.start w []).alloc (g := w.heap.size) rfl (arrC a (.slice A1 a.mems.length c1) vd) 34)
 have HI := Aside0.mk (H0.out.lit (g := w.heap.size + 1) (by simp) oInt 3)
 obtain ⟨id, gn, gs, mems, lost, built, seq, tail, gen, dirty, fuse, down, broken⟩ := a
 simp only [arrC] at *
 obtain ⟨k0, k1, k2, k3, k4, k5, k6, k7, k8, k9, k10, k11, k12⟩ := thirteen (HI.out.get 1 rfl)
 go_enter Tryz.func177, Tryz.ntmps177
 go_wp2
 go_loopw [6, 7, 8] (fun v6 v7 v8 wr => ∃ (i : Nat) (l : List Int) (ms : Int) (A : Option Addr) (c : Nat) (F : List Nat), i ≤ mems.length ∧ v8 = .int .i64 i ∧ v6 = .slice A i c ∧ v7 = .int .i64 ms ∧ Aside0 (l.length = i) ∧ (-1 ≤ ms ∧ ms < (i : Int)) ∧ Aside0 (wsV (⟨id, gn, gs, mems, lost, built, seq, tail, gen, dirty, fuse, down, broken⟩ : ArrV) s i = some (l, ms)) ∧ Aside0 (Sep w [] wr [rw_ oInt 3 F (.slice A i c) l, bx w.heap.size 34 #[.int .i64 id, .int .i64 gn, .int .i64 gs, .slice A1 mems.length c1, .int .i64 lost, .int .i64 built, .int .i64 seq, .int .i64 tail, .int .i64 gen, vd, .int .i64 fuse, .bool down, .bool broken]])) (fun _ _ v8 _ => mems.length - (intOf v8).toNat)
 case atStart => exact ⟨0, [], -1, _, _, _, by omega, rfl, rfl, rfl, ⟨rfl⟩, ⟨by omega, by omega⟩, ⟨rfl⟩, HI⟩
 case round =>
  clear HI k0 k1 k2 k3 k4 k5 k6 k7 k8 k9 k10 k11 k12
  obtain ⟨i, l, ms, A, c, F, hi, rfl, rfl, rfl, HL, hlo, HW, HR⟩ := hrel
  obtain ⟨k0, k1, k2, k3, k4, k5, k6, k7, k8, k9, k10, k11, k12⟩ := thirteen (HR.out.get 1 rfl)
  by_cases hlt : i < mems.length
  ·have hig : (i : Int) < (mems.length : Int) := by omega
   have hgn : (i : Int) < gn := by have := HLEN.out; omega
   obtain ⟨⟨pn, pok⟩, hp⟩ : ∃ p, wordV (⟨id, gn, gs, mems, lost, built, seq, tail, gen, dirty, fuse, down, broken⟩ : ArrV) i s = p := ⟨_, rfl⟩
   have HP := Aside0.mk hp
   clear hp
   have HST : wsV (⟨id, gn, gs, mems, lost, built, seq, tail, gen, dirty, fuse, down, broken⟩ : ArrV) s (i + 1) = (if pok then some (l ++ [pn], ms) else if 0 ≤ ms then none else some (l ++ [pn], (i : Int))) := by simp only [wsV, HW.out, HP.out]
   replace HST := Aside0.mk HST
   cases pok
   ·by_cases hge : 0 ≤ ms
    ·have hgeb : decide (0 ≤ ms) = true := decide_eq_true hge
     have HF := Aside0.mk (wsR_none (by rw [HST.out, if_neg (by decide), if_pos hge]) hlt)
     go_wp2_with (first
      | (go_at_call 181; refine (c_specWord (ArrR_below H.out HR.out.toBelow) HSM.out hlt).mono ?_; rw [HP.out]; rintro e w2 ⟨rfl, hb⟩; have hs2 := HR.out.below hb; have HS2 := Aside0.mk hs2; clear hs2 hb k0 k1 k2 k3 k4 k5 k6 k7 k8 k9 k10 k11 k12; obtain ⟨k0, k1, k2, k3, k4, k5, k6, k7, k8, k9, k10, k11, k12⟩ := thirteen (HS2.out.get 1 rfl))
      | fail)
     go_ret2
     rw [HF.out]
     first | exact ⟨_, _, rfl, (HS2.out.lit rfl oInt 3).toNew 0 rfl⟩ | exact ⟨_, rfl, _, (HS2.out.lit rfl oInt 3).toNew 0 rfl⟩
    ·have hgeb : decide (0 ≤ ms) = false := decide_eq_false hge
     go_wp2_with (first
      | (go_at_call 181; refine (c_specWord (ArrR_below H.out HR.out.toBelow) HSM.out hlt).mono ?_; rw [HP.out]; rintro e w2 ⟨rfl, hb⟩; have hs2 := HR.out.below hb; have HS2 := Aside0.mk hs2; clear hs2 hb k0 k1 k2 k3 k4 k5 k6 k7 k8 k9 k10 k11 k12; obtain ⟨k0, k1, k2, k3, k4, k5, k6, k7, k8, k9, k10, k11, k12⟩ := thirteen (HS2.out.get 1 rfl))
      | (at_builtin; (refine app_one0 (d := oInt) (y := pn) HS2.out rfl _ _ 28 (.int .i64 0) 8 (by rfl) Tryz.underlying28 (by kernel_rfl) rfl (by decide) (by decide) [.int .i64 pn] (by first | exact ⟨rfl, rfl⟩ | rfl | simp [oInt, Od.int]) (by rfl) (by rfl) rfl (n := i) HL.out (by omega) ?_); intro A3 c3 w3 F3 hs3; have HS3 := Aside0.mk hs3; clear hs3)
      | fail)
     go_roundw
     case rel => exact ⟨i + 1, l ++ [pn], i, A3, c3, F3, by omega, by go_num, rfl, rfl, ⟨by simp [HL.out]⟩, ⟨by omega, by omega⟩, ⟨by rw [HST.out]; rw [if_neg (by decide), if_neg (by omega)]⟩, HS3⟩
     case measure => simp [intOf]; omega
   ·go_wp2_with (first
     | (go_at_call 181; refine (c_specWord (ArrR_below H.out HR.out.toBelow) HSM.out hlt).mono ?_; rw [HP.out]; rintro e w2 ⟨rfl, hb⟩; have hs2 := HR.out.below hb; have HS2 := Aside0.mk hs2; clear hs2 hb k0 k1 k2 k3 k4 k5 k6 k7 k8 k9 k10 k11 k12; obtain ⟨k0, k1, k2, k3, k4, k5, k6, k7, k8, k9, k10, k11, k12⟩ := thirteen (HS2.out.get 1 rfl))
     | (at_builtin; (refine app_one0 (d := oInt) (y := pn) HS2.out rfl _ _ 28 (.int .i64 0) 8 (by rfl) Tryz.underlying28 (by kernel_rfl) rfl (by decide) (by decide) [.int .i64 pn] (by first | exact ⟨rfl, rfl⟩ | rfl | simp [oInt, Od.int]) (by rfl) (by rfl) rfl (n := i) HL.out (by omega) ?_); intro A3 c3 w3 F3 hs3; have HS3 := Aside0.mk hs3; clear hs3)
     | fail)
    go_roundw
    case rel => exact ⟨i + 1, l ++ [pn], ms, A3, c3, F3, by omega, by go_num, rfl, rfl, ⟨by simp [HL.out]⟩, ⟨by omega, by omega⟩, ⟨by rw [HST.out]; rfl⟩, HS3⟩
    case measure => simp [intOf]; omega
  ·obtain rfl : i = mems.length := by omega
   have hgn : ¬ (mems.length : Int) < gn := by have := HLEN.out; omega
   have HV := Aside0.mk (show wsR (⟨id, gn, gs, mems, lost, built, seq, tail, gen, dirty, fuse, down, broken⟩ : ArrV) s = wsEnd (some (l, ms)) by unfold wsR; rw [HW.out])
   by_cases hge : 0 ≤ ms
   ·obtain ⟨q, rfl⟩ : ∃ q : Nat, ms = (q : Int) := ⟨ms.toNat, by omega⟩
    have hq : q < l.length := by rw [HL.out]; omega
    obtain ⟨g, cap, hg9, _, _⟩ := O_form (show oInt.O 3 wr F (.slice A mems.length c) l from HR.out.get 0 rfl) (by omega)
    obtain rfl := (Value.slice.inj hg9).1
    clear hg9
    have HV2 := Aside0.mk (show wsR (⟨id, gn, gs, mems, lost, built, seq, tail, gen, dirty, fuse, down, broken⟩ : ArrV) s = (l.set q (missV l (q : Int)), true) by rw [HV.out, wsEnd, if_pos (by omega), Int.toNat_natCast])
    have hgeb : decide ((0 : Int) ≤ (q : Int)) = true := decide_eq_true (by omega)
    have q0 : (0 : Int) ≤ (q : Int) := by omega
    have ql : (q : Int) < (mems.length : Int) := by omega
    have hll := HL.out
    have HLL := Aside0.mk hll
    have hl9 : l.length ≤ 16777216 := by rw [HLL.out]; exact HML.out
    clear hll hge
    go_wp2_with (first
     | (go_at_call 182; refine (c_specMissing (O_RK (show oInt.O 3 wr F _ l from HR.out.get 0 rfl))).mono ?_; rintro e w2 ⟨rfl, hb⟩; have hs2 := HR.out.dr hb; have HS2 := Aside0.mk hs2; clear hs2 hb; obtain ⟨u9, cc1, cc2⟩ := O_cells (d := oInt) (i := q) (t := 0) (HS2.out.get 0 rfl) hq (by decide); simp only [show oInt.sz = 1 from rfl, Nat.mul_one, Nat.add_zero] at cc1 cc2)
     | fail)
    go_ret2
    rw [HV2.out]
    first | exact ⟨_, _, rfl, (HS2.out.seti 0 rfl hq (missV l (q : Int))).toNew 0 rfl⟩ | exact ⟨_, rfl, _, (HS2.out.seti 0 rfl hq (missV l (q : Int))).toNew 0 rfl⟩
   ·have hgeb : decide (0 ≤ ms) = false := decide_eq_false hge
    have HV2 := Aside0.mk (show wsR (⟨id, gn, gs, mems, lost, built, seq, tail, gen, dirty, fuse, down, broken⟩ : ArrV) s = (l, true) by rw [HV.out, wsEnd, if_neg hge])
    go_wp2
    go_ret2
    rw [HV2.out]
    first | exact ⟨_, _, rfl, HR.out.toNew 0 rfl⟩ | exact ⟨_, rfl, _, HR.out.toNew 0 rfl⟩
end AWords
namespace AData
open Go.RowKit RJ RP Go.Proofs.YtggmifnblcjdfaaGreatW.PrintWords Fp FpStep MInt MKinds MRead MMake MPut MHeld MOk MSuper Go.Proofs.YtggmifnblcjdfaaGreat.Sep SepStep AKinds AMake AEnt ALaw AArr AOk MVal AXor AWord AWords AOkD AOkI AOkA AGeo
def datL (l : List Int) (n st : Int) (i : Nat) : List Int := (List.range i).map fun (j : Nat) => l.getD (diskN n st (j : Int)).toNat 0
theorem datL_succ (l : List Int) (n st : Int) (i : Nat) : datL l n st (i + 1) = datL l n st i ++ [l.getD (diskN n st (i : Int)).toNat 0] := by simp [datL, List.range_succ]
def datE (n st : Int) (p : List Int × Bool) : List Int × Bool := if p.2 then (datL p.1 n st (n - 1).toNat, true) else ([], false)
theorem wsR_len2 {a : ArrV} {s : Int} (h : (wsR a s).2 = true) : (wsR a s).1.length = a.mems.length := by
 unfold wsR at *
 cases hq : wsV a s a.mems.length with
 | none => rw [hq] at h; cases h
 | some p =>
  obtain ⟨l, k⟩ := p
  have := wsV_len _ _ _ hq
  unfold wsEnd
  simp only
  split <;> simp <;> omega
theorem O_int_at {w : World} {e : TypeId} {F : List Nat} {g n cap q : Nat} {l : List Int} {y : Int} (h : oInt.O e w F (.slice (some ⟨g, 0, none⟩) n cap) l) (hy : l[q]? = some y) : w.cell? ⟨g, q, none⟩ = some (.int .i64 y) := by
 obtain ⟨ad, cap2, hv, hc⟩ := ints_at (O_RK h) (by have := (List.getElem?_eq_some_iff.1 hy).1; omega)
 obtain rfl := Option.some.inj (Value.slice.inj hv).1
 have := hc q y hy
 by_cases h0 : q = 0
 ·subst h0; simpa [Addr.add] using this
 ·simpa [Addr.add, h0] using this
set_option maxHeartbeats 4000000 in
set_option maxRecDepth 100000 in
theorem c_specL6Data {w : World} {v : Value} {a : ArrV} {s : Int} (h : ArrR w v a) (hsm : SmallA a) (hlen : (a.mems.length : Int) = a.gn) (hg : geoB a.gn a.gs = true) (hin : inR s 0 (a.gs - 1) = true) :
  Calls Tryz.prog 180 #[v, .int .i64 s] w fun e w' => ∃ u F, e = .returned (.tuple #[u, .bool (datE a.gn s (wsR a s)).2]) ∧ New w w' (rw_ oInt 3 F u (datE a.gn s (wsR a s)).1) := by
 have H := Aside0.mk h
 have HSM := Aside0.mk hsm
 have HLEN := Aside0.mk hlen
 have HG := Aside0.mk hg
 have HI := Aside0.mk hin
 have HG3 := Aside0.mk (show 3 ≤ a.gn ∧ a.gn ≤ 5 by simp [geoB, inR] at hg; omega)
 obtain ⟨vm, vd, rfl, r1, r2⟩ := h
 have HS := Aside0.mk ((Sep.start w []).alloc (g := w.heap.size) rfl (arrC a vm vd) 34)
 clear r1 r2 hsm hg hin hlen
 obtain ⟨⟨l, lb⟩, hp⟩ : ∃ p, wsR a s = p := ⟨_, rfl⟩
 have HP := Aside0.mk hp
 have HLL := Aside0.mk (show lb = true → (l.length : Int) = a.gn from fun hb => by have := wsR_len2 (a := a) (s := s) (by rw [HP.out]; exact hb); rw [HP.out] at this; have := HLEN.out; simp only at *; omega)
 clear hp
 obtain ⟨id, gn, gs, mems, lost, built, seq, tail, gen, dirty, fuse, down, broken⟩ := a
 simp only [arrC] at *
 have wgn : IntKind.i64.wrap (gn - 1) = gn - 1 := IntWalk.i64_in _ (by have := HG3.out; omega)
 obtain ⟨k0, k1, k2, k3, k4, k5, k6, k7, k8, k9, k10, k11, k12⟩ := thirteen (HS.out.get 0 rfl)
 rw [HP.out]
 cases lb
 ·go_enter Tryz.func180, Tryz.ntmps180
  go_upto_region 2 with (first
   | (go_at_call 177; refine (c_specL6Words (ArrR_below H.out HS.out.toBelow) HSM.out HLEN.out).mono ?_; rw [HP.out]; rintro e w2 ⟨u, FW, rfl, hn⟩; have HS2 := Aside0.mk (HS.out.new hn); clear hn k0 k1 k2 k3 k4 k5 k6 k7 k8 k9 k10 k11 k12)
   | fail)
  have HI0 := Aside0.mk (HS2.out.lit (g := w2.heap.size) rfl oInt 3)
  obtain ⟨k0, k1, k2, k3, k4, k5, k6, k7, k8, k9, k10, k11, k12⟩ := thirteen (HI0.out.get 2 rfl)
  have hg3 := HG3.out
  have h01 : decide ((0 : Int) < gn - 1) = true := decide_eq_true (by omega)
  go_wp2
  refine wp_loop_rounds 1 ?_
  rw [rounds_succ]
  go_wp2
  go_ret2
  first | exact ⟨_, _, rfl, HI0.out.toNew 0 rfl⟩ | exact ⟨_, rfl, _, HI0.out.toNew 0 rfl⟩
 ·replace HLL := Aside0.mk (HLL.out rfl)
  go_enter Tryz.func180, Tryz.ntmps180
  go_upto_region 2 with (first
   | (go_at_call 177; refine (c_specL6Words (ArrR_below H.out HS.out.toBelow) HSM.out HLEN.out).mono ?_; rw [HP.out]; rintro e w2 ⟨u, FW, rfl, hn⟩; have HS2 := Aside0.mk (HS.out.new hn); clear hn k0 k1 k2 k3 k4 k5 k6 k7 k8 k9 k10 k11 k12)
   | fail)
  have hw0 : 0 < l.length := by have := HLL.out; have := HG3.out; omega
  obtain ⟨gw, cw, hgw, _, _⟩ := O_form (show oInt.O 3 w2 FW u l from HS2.out.get 0 rfl) hw0
  subst hgw
  have HI0 := Aside0.mk (HS2.out.lit (g := w2.heap.size) rfl oInt 3)
  obtain ⟨k0, k1, k2, k3, k4, k5, k6, k7, k8, k9, k10, k11, k12⟩ := thirteen (HI0.out.get 2 rfl)
  go_wp2
  go_loopw [8, 9] (fun v8 v9 wr => ∃ (i : Nat) (A : Option Addr) (c : Nat) (F : List Nat), (i : Int) ≤ gn - 1 ∧ v9 = .int .i64 i ∧ v8 = .slice A i c ∧ Aside0 (Sep w [] wr [rw_ oInt 3 F (.slice A i c) (datL l gn s i), rw_ oInt 3 FW (.slice (some ⟨gw, 0, none⟩) l.length cw) l, bx w.heap.size 34 #[.int .i64 id, .int .i64 gn, .int .i64 gs, vm, .int .i64 lost, .int .i64 built, .int .i64 seq, .int .i64 tail, .int .i64 gen, vd, .int .i64 fuse, .bool down, .bool broken]])) (fun _ v9 _ => 6 - (intOf v9).toNat)
  case atStart => exact ⟨0, _, _, _, by have := HG3.out; omega, rfl, rfl, HI0⟩
  case round =>
   clear HI0 k0 k1 k2 k3 k4 k5 k6 k7 k8 k9 k10 k11 k12
   obtain ⟨i, A, c, F, hi, rfl, rfl, HR⟩ := hrel
   obtain ⟨k0, k1, k2, k3, k4, k5, k6, k7, k8, k9, k10, k11, k12⟩ := thirteen (HR.out.get 2 rfl)
   by_cases hlt : (i : Int) < gn - 1
   ·have hd := diskN_in (st := s) (i := (i : Int)) HG3.out
    obtain ⟨q, hq⟩ : ∃ q : Nat, diskN gn s (i : Int) = (q : Int) := ⟨(diskN gn s (i : Int)).toNat, by omega⟩
    have HQ := Aside0.mk hq
    have hql : q < l.length := by have := HLL.out; omega
    obtain ⟨y, hy⟩ : ∃ y, l[q]? = some y := ⟨_, List.getElem?_eq_getElem hql⟩
    have HST := Aside0.mk (show datL l gn s (i + 1) = datL l gn s i ++ [y] by rw [datL_succ, HQ.out, Int.toNat_natCast, List.getD_eq_getElem?_getD, hy]; rfl)
    have hqi : (q : Int) < (l.length : Int) := by omega
    have q0 : (0 : Int) ≤ (q : Int) := by omega
    have hg5 := HG3.out
    clear hq hd
    go_wp2_with (first
     | (go_at_call 183; refine (c_specDiskOf _ _ _ _ _ HG.out HI.out (by simp [inR]; omega)).mono ?_; rw [HQ.out]; rintro e w2 ⟨rfl, hb⟩; have hs2 := HR.out.below hb; have HS2 := Aside0.mk hs2; clear hs2 hb k0 k1 k2 k3 k4 k5 k6 k7 k8 k9 k10 k11 k12; obtain ⟨k0, k1, k2, k3, k4, k5, k6, k7, k8, k9, k10, k11, k12⟩ := thirteen (HS2.out.get 2 rfl); have cc1 := O_int_at (show oInt.O 3 w2 FW (.slice (some ⟨gw, 0, none⟩) l.length cw) l from HS2.out.get 1 rfl) hy)
     | (at_builtin; (refine app_one0 (d := oInt) (y := y) HS2.out rfl _ _ 28 (.int .i64 0) 8 (by rfl) Tryz.underlying28 (by kernel_rfl) rfl (by decide) (by decide) [.int .i64 y] (by first | exact ⟨rfl, rfl⟩ | rfl | simp [oInt, Od.int]) (by rfl) (by rfl) rfl (n := i) (by simp [datL]) (by omega) ?_); intro A3 c3 w3 F3 hs3; have HS3 := Aside0.mk hs3; clear hs3)
     | fail)
    go_roundw
    case rel => exact ⟨i + 1, A3, c3, F3, by omega, by go_num, rfl, ⟨by rw [HST.out]; exact HS3.out⟩⟩
    case measure => have := HG3.out; simp [intOf]; omega
   ·have hn1 : i = (gn - 1).toNat := by omega
    have HV := Aside0.mk (show datE gn s (l, true) = (datL l gn s i, true) by unfold datE; simp only [if_true]; rw [← hn1])
    clear hn1
    go_wp2
    go_ret2
    rw [HV.out]
    first | exact ⟨_, _, rfl, HR.out.toNew 0 rfl⟩ | exact ⟨_, rfl, _, HR.out.toNew 0 rfl⟩
end AData
namespace DAt
open Go.RowKit RJ RP Go.Proofs.YtggmifnblcjdfaaGreatW.PrintWords Fp FpStep MInt MKinds MRead MMake MPut MHeld MOk MVal MSuper Go.Proofs.YtggmifnblcjdfaaGreat.Sep SepStep AKinds AOk AOkD AGeo AWord AWords AData DRes DInv
def AtR (l : List (Int × List Int)) (s k : Int) : Prop := (k = -1 ∧ ∀ e ∈ l, e.1 ≠ s) ∨ (0 ≤ k ∧ k < l.length)
set_option maxHeartbeats 4000000 in
theorem c_l8At {w : World} {v : Value} {a : ArrV} {s : Int} (h : ArrR w v a) :
  Calls Tryz.prog 176 #[v, .int .i64 s] w fun e w' => (∃ k : Int, e = .returned (.int .i64 k) ∧ AtR a.dirty s k) ∧ Below w.heap.size w w' := by
 obtain ⟨vm, vd, rfl, r1, r2⟩ := h
 have ld := RK_len r2
 obtain ⟨A1, c1, rfl, hl1, _⟩ := id r2
 have R2 := Aside0.mk r2
 clear r1 r2 hl1
 have H0 := Aside0.mk ((Sep.start w []).alloc (g := w.heap.size) rfl (arrC a vm (.slice A1 a.dirty.length c1)) 34)
 obtain ⟨id, gn, gs, mems, lost, built, seq, tail, gen, dirty, fuse, down, broken⟩ := a
 simp only [arrC] at *
 go_enter Tryz.func176, Tryz.ntmps176
 go_wp2
 go_loopw [5] (fun v5 wr => ∃ i : Nat, i ≤ dirty.length ∧ v5 = .int .i64 i ∧ Aside0 (∀ j y, j < i → dirty[j]? = some y → y.1 ≠ s) ∧ Aside0 (Sep w [] wr [bx w.heap.size 34 #[.int .i64 id, .int .i64 gn, .int .i64 gs, vm, .int .i64 lost, .int .i64 built, .int .i64 seq, .int .i64 tail, .int .i64 gen, .slice A1 dirty.length c1, .int .i64 fuse, .bool down, .bool broken]])) (fun v5 _ => dirty.length - (intOf v5).toNat)
 case atStart => exact ⟨0, by omega, rfl, ⟨fun j y hj => by omega⟩, H0⟩
 case round =>
  clear H0
  obtain ⟨i, hi, rfl, ht, HR⟩ := hrel
  obtain ⟨k0, k1, k2, k3, k4, k5, k6, k7, k8, k9, k10, k11, k12⟩ := thirteen (HR.out.get 0 rfl)
  by_cases hlt : i < dirty.length
  ·obtain ⟨⟨n, xs⟩, hxi⟩ : ∃ x, dirty[i]? = some x := ⟨_, List.getElem?_eq_getElem hlt⟩
   obtain ⟨ad, cap, ha, hc⟩ := RK_wrs R2.out (by omega)
   obtain rfl := (Value.slice.inj ha).1
   obtain ⟨u, cn, cu, ru⟩ := hc i (n, xs) hxi
   simp only at cn cu ru
   replace cn := HR.out.old cn
   have Hxi := Aside0.mk hxi
   have i0 : (0 : Int) ≤ (i : Int) := by omega
   have i1 : (i : Int) < (dirty.length : Int) := by omega
   clear ha hc ru hxi cu
   by_cases hn : n = s
   ·subst hn
    go_wp2
    go_ret
    exact ⟨⟨_, rfl, .inr ⟨by omega, by omega⟩⟩, HR.out.toBelow⟩
   ·have hn' : (n == s) = false := by simpa using hn
    go_wp2
    go_roundw
    case rel => exact ⟨i + 1, by omega, by go_num, ⟨fun j y hj hy => by
     rcases Nat.lt_or_ge j i with hj2 | hj2
     ·exact ht.out j y hj2 hy
     ·obtain rfl : j = i := by omega
      obtain rfl := Option.some.inj (Hxi.out.symm.trans hy)
      exact hn⟩, HR⟩
    case measure => simp [intOf]; omega
  ·obtain rfl : i = dirty.length := by omega
   go_wp2
   go_ret
   refine ⟨⟨_, rfl, .inl ⟨rfl, fun e he => ?_⟩⟩, HR.out.toBelow⟩
   obtain ⟨j, hj⟩ := List.getElem?_of_mem he
   exact ht.out j e (List.getElem?_eq_some_iff.1 hj).1 hj
theorem dat_len {n st : Int} {p : List Int × Bool} (hn : 3 ≤ n ∧ n ≤ 5) (h : (datE n st p).2 = true) : ((datE n st p).1.length : Int) = n - 1 := by
 unfold datE at *
 split at h
 ·rename_i hp; rw [if_pos hp]; simp [datL]; omega
 ·cases h
set_option maxHeartbeats 4000000 in
set_option maxRecDepth 100000 in
theorem c_l8Stripe {w : World} {v : Value} {a : ArrV} {s b d : Int} (h : ArrR w v a) (hG : Fit b d a) (hd : d ≤ 1000) (hin : inR s 0 (a.gs - 1) = true) :
  Calls Tryz.prog 173 #[v, .int .i64 s] w fun e w' => ∃ (u : Value) (F : List Nat) (ok : Bool) (xs : List Int), e = .returned (.tuple #[u, .bool ok]) ∧ (ok = true → (xs.length : Int) = a.gn - 1) ∧ New w w' (rw_ oInt 3 F u xs) := by
 have H := Aside0.mk h
 have HG := Aside0.mk hG
 have HSM := Aside0.mk (hG.small (by omega : d ≤ 16777216))
 have HIN := Aside0.mk hin
 have HN := Aside0.mk hG.n.1
 have hbr := hG.brok
 obtain ⟨vm, vd, rfl, r1, r2⟩ := h
 have ld := RK_len r2
 obtain ⟨A1, c1, rfl, hl1, _⟩ := id r2
 have R2 := Aside0.mk r2
 clear r1 r2 hl1 hG hin
 have H0 := Aside0.mk ((Sep.start w []).alloc (g := w.heap.size) rfl (arrC a vm (.slice A1 a.dirty.length c1)) 34)
 simp only [arrC] at *
 rw [hbr] at H0 H ⊢
 go_enter Tryz.func173, Tryz.ntmps173
 go_upto_region 2 with (first
  | (go_at_call 176; refine (c_l8At (ArrR_below H.out H0.out.toBelow)).mono ?_; rintro e w1 ⟨⟨k, rfl, hk⟩, hb⟩; have HS1 := Aside0.mk (H0.out.below hb); clear hb)
  | fail)
 have kk := thirteen (HS1.out.get 0 rfl)
 by_cases hk0 : 0 ≤ k
 ·obtain ⟨q, rfl⟩ : ∃ q : Nat, k = (q : Int) := ⟨k.toNat, by omega⟩
  have hq : q < a.dirty.length := by rcases hk with ⟨h1, _⟩ | ⟨_, h1⟩ <;> omega
  obtain ⟨⟨n, xs⟩, hx⟩ : ∃ x, a.dirty[q]? = some x := ⟨_, List.getElem?_eq_getElem hq⟩
  have HXL := Aside0.mk (show (xs.length : Int) = a.gn - 1 from HG.out.de _ (List.mem_of_getElem? hx))
  have hxl : xs.length ≤ 4 := by have := HXL.out; have := HN.out; omega
  obtain ⟨ad, cap, ha, hc⟩ := RK_wrs R2.out (by omega)
  obtain rfl := (Value.slice.inj ha).1
  obtain ⟨u, cn, cu, ru⟩ := hc q (n, xs) hx
  simp only at cn cu ru
  replace cu := HS1.out.old cu
  have RU := Aside0.mk (HS1.out.rk ru)
  have hq1 : (q : Int) < (a.dirty.length : Int) := by omega
  have q0 : (0 : Int) ≤ (q : Int) := by omega
  have hk1 : decide ((0 : Int) ≤ (q : Int)) = true := decide_eq_true q0
  clear ha hc ru hx cn hk
  have HL := Aside0.mk (HS1.out.lit (g := w1.heap.size) rfl oInt 3)
  clear kk
  have kk := thirteen (HL.out.get 1 rfl)
  replace cu := cell_alloc cu (.cells #[] 3)
  go_wp2_with (first
   | (at_builtin; refine copy_ints .i64 HL.out rfl _ _ 28 8 (by rfl) Tryz.underlying28 (by kernel_rfl) (by decide) _ _ (by rfl) (by rfl) (RK_below RU.out ((Sep.start w1 []).lit (g := w1.heap.size) rfl oInt 3).toBelow) (by omega) ?_; intro A7 c7 w4 F4 h4; have HS4 := Aside0.mk h4; clear h4)
   | fail)
  go_ret2
  first | exact ⟨_, _, true, xs, rfl, fun _ => HXL.out, HS4.out.toNew 0 rfl⟩ | exact ⟨_, rfl, _, true, xs, fun _ => HXL.out, HS4.out.toNew 0 rfl⟩
 ·have hk1 : decide (0 ≤ k) = false := decide_eq_false hk0
  clear hk
  go_wp2_with (first
   | (go_at_call 180; refine (c_specL6Data (ArrR_below H.out HS1.out.toBelow) HSM.out HG.out.len HG.out.geo HIN.out).mono ?_; rintro e w2 ⟨u, F2, rfl, hn⟩; have HS2 := Aside0.mk (HS1.out.new hn); clear hn)
   | fail)
  go_ret2
  first | exact ⟨_, _, _, _, rfl, fun hok => dat_len HN.out hok, HS2.out.toNew 0 rfl⟩ | exact ⟨_, rfl, _, _, _, fun hok => dat_len HN.out hok, HS2.out.toNew 0 rfl⟩
end DAt
namespace DPut
open Go.RowKit RJ RP Go.Proofs.YtggmifnblcjdfaaGreatW.PrintWords Fp FpStep MInt MKinds MRead MMake MPut MHeld MOk MVal MSuper Go.Proofs.YtggmifnblcjdfaaGreat.Sep SepStep AKinds AOk AOkD DRes DInv
theorem put_done {w0 w : World} {L : List Res} {g gE hh c1 c c2 ce : Nat} {a : ArrV} {A A2 AE : Option Addr} {F F1 F2 F3 Fe : List Nat} {es out : List (Int × Value)} {s : Int} {xs : List Int} {b d : Int} {cE : Array Value}
  (H : Sep w0 [] w (rw_ oShl 91 F (.slice A out.length c) out :: bx gE 91 cE :: bx g 34 (arrC a (.slice (some ⟨hh, 0, none⟩) a.mems.length c1) (.slice A out.length c)) :: rw_ oMem 89 F1 (.slice (some ⟨hh, 0, none⟩) a.mems.length c1) a.mems :: rw_ oShl 91 F2 (.slice A2 es.length c2) es :: da F3 es a.dirty :: rw_ oInt 3 Fe (.slice AE xs.length ce) xs :: L))
  (ho : ∀ q ∈ out, q ∈ es ++ [(s, Value.slice AE xs.length ce)]) (hl : out.length ≤ es.length + 1) (hG : Fit b d a) (hx : (xs.length : Int) = a.gn - 1) : ∃ a', Fit b (d + 1) a' ∧ Bx w0 w g a' L := by
 have hda := da_add (s := s) (H.lies 5 rfl) (H.lies 6 rfl)
 obtain ⟨l', h1, h2, h3⟩ := da_pick hda out ho
 have h4 := H.selT 7 [5, 6, 2, 3, 0] (by decide) (by simp <;> omega)
 simp only [qqN, qqT] at h4
 have hel : es.length = a.dirty.length := (H.get 5 rfl : Dat w es a.dirty).1
 have h5 := (Sep.join (P := fun w => Dat w out l') h4 h3)
 have h6 := h5.selT 4 [1, 2, 3, 0] (by decide) (by simp <;> omega)
 simp only [qqN, qqT] at h6
 refine ⟨{ a with dirty := l' }, good_dirty hG (by have := hG.dl; omega) (fun x hx2 => ?_), hh, c1, A, c, F1, F, F3 ++ Fe, out, h1.symm, ?_⟩
 ·rcases List.mem_append.1 (h2 x hx2) with hq | hq
  ·exact hG.de x hq
  ·rw [List.mem_singleton] at hq; subst hq; exact hx
 ·show Sep w0 [] w (bx g 34 (arrC { a with dirty := l' } (.slice (some ⟨hh, 0, none⟩) a.mems.length c1) (.slice A l'.length c)) :: rw_ oMem 89 F1 (.slice (some ⟨hh, 0, none⟩) a.mems.length c1) a.mems :: rw_ oShl 91 F (.slice A l'.length c) out :: da (F3 ++ Fe) out l' :: L)
  rw [h1]
  exact h6
theorem mem_snoc {α : Type} {l : List α} {out : List α} {x y : α} (h : ∀ q ∈ out, q ∈ l ++ [y]) (hx : x ∈ l ++ [y]) : ∀ q ∈ out ++ [x], q ∈ l ++ [y] := by
 intro q hq
 rcases List.mem_append.1 hq with hq | hq
 ·exact h q hq
 ·rw [List.mem_singleton] at hq; subst hq; exact hx
set_option maxHeartbeats 4000000 in
set_option maxRecDepth 100000 in
theorem c_l8Put {w0 w : World} {g : Nat} {a : ArrV} {L : List Res} {s : Int} {AE : Option Addr} {xs : List Int} {ce : Nat} {Fe : List Nat} {b d : Int} (h : Bx w0 w g a (rw_ oInt 3 Fe (.slice AE xs.length ce) xs :: L)) (hG : Fit b d a) (hx : (xs.length : Int) = a.gn - 1) (hd : d ≤ 1000) :
  Calls Tryz.prog 175 #[.pointer (some ⟨g, 0, none⟩), .agg #[.int .i64 s, .slice AE xs.length ce]] w fun e w' => e = .returned (.tuple #[]) ∧ ∃ a', Fit b (d + 1) a' ∧ Bx w0 w' g a' L := by
 obtain ⟨hh, c1, A2, c2, F1, F2, F3, es, hel, hs⟩ := h
 have HG := Aside0.mk hG
 have HX := Aside0.mk hx
 have hdl : es.length ≤ 1000 := by have := hG.dl; omega
 rw [← hel] at hs
 have HI := Aside0.mk ((hs.alloc (g := w.heap.size) rfl #[.int .i64 s, .slice AE xs.length ce] 91).lit (g := w.heap.size + 1) (by simp) oShl 91)
 clear hs hG hx hel hd
 simp only [arrC] at *
 generalize hgE : w.heap.size = gE at *
 go_enter Tryz.func175, Tryz.ntmps175
 go_wp2
 go_loopw [4, 5, 6] (fun v4 v5 v6 wr => ∃ (i : Nat) (A : Option Addr) (c : Nat) (F : List Nat) (out : List (Int × Value)) (dn : Bool), i ≤ es.length ∧ v6 = .int .i64 i ∧ v5 = .bool dn ∧ v4 = .slice A out.length c ∧ out.length ≤ i + (if dn = true then 1 else 0) ∧ Aside0 (∀ q ∈ out, q ∈ es ++ [(s, Value.slice AE xs.length ce)]) ∧ Aside0 (Sep w0 [] wr (rw_ oShl 91 F (.slice A out.length c) out :: bx gE 91 #[.int .i64 s, .slice AE xs.length ce] :: bx g 34 #[.int .i64 a.id, .int .i64 a.gn, .int .i64 a.gs, .slice (some ⟨hh, 0, none⟩) a.mems.length c1, .int .i64 a.lost, .int .i64 a.built, .int .i64 a.seq, .int .i64 a.tail, .int .i64 a.gen, .slice A2 es.length c2, .int .i64 a.fuse, .bool a.down, .bool a.broken] :: rw_ oMem 89 F1 (.slice (some ⟨hh, 0, none⟩) a.mems.length c1) a.mems :: rw_ oShl 91 F2 (.slice A2 es.length c2) es :: da F3 es a.dirty :: rw_ oInt 3 Fe (.slice AE xs.length ce) xs :: L))) (fun _ _ v6 _ => es.length - (intOf v6).toNat)
 case atStart => exact ⟨0, _, _, _, [], false, by omega, rfl, rfl, rfl, by simp, ⟨by simp⟩, by subst hgE; exact HI⟩
 case round =>
  clear HI
  obtain ⟨i, A, c, F, out, dn, hi, rfl, rfl, rfl, hol, HO, HR⟩ := hrel
  have hob : out.length ≤ i + 1 := by revert hol; split <;> omega
  have kk := thirteen (HR.out.get 2 rfl)
  obtain ⟨m0, m1⟩ := two_cells (HR.out.get 1 rfl)
  by_cases hlt : i < es.length
  ·obtain ⟨⟨n, v⟩, hxi⟩ : ∃ x, es[i]? = some x := ⟨_, List.getElem?_eq_getElem hlt⟩
   obtain ⟨ad, rfl, hc⟩ := shl_cells (HR.out.get 4 rfl) (by omega)
   obtain ⟨cn, cv, h1⟩ := hc i (n, v) hxi
   simp only at cn cv h1
   have H1 := Aside0.mk h1
   have HM := Aside0.mk (show ((n, v) : Int × Value) ∈ es ++ [(s, Value.slice AE xs.length ce)] from List.mem_append_left _ (List.mem_of_getElem? hxi))
   have i0 : (0 : Int) ≤ (i : Int) := by omega
   have i1 : (i : Int) < (es.length : Int) := by omega
   have HXI := Aside0.mk hxi
   clear hc hxi h1
   go_upto_region 6 with fail
   cases dn
   ·by_cases hge : s ≤ n
    ·have hg : decide (s ≤ n) = true := decide_eq_true hge
     go_quiet (fail)
     have HR' := Aside0.mk (HR.out.drewN 0)
     go_upto_region 9 with (first
      | (at_builtin; refine app_one0 (d := oShl) (y := (s, Value.slice AE xs.length ce)) (HR.out.drewN _) rfl _ _ 32 (.agg #[.int .i64 0, .slice none 0 0]) 32 (by rfl) Tryz.underlying32 (by kernel_rfl) rfl (by decide) (by decide) [.int .i64 s, Value.slice AE xs.length ce] (oShl_M rfl) (by rfl) (by rfl) rfl (n := out.length) rfl (by omega) ?_; intro A7 c7 w7 F7 hs; have HS7 := Aside0.mk hs; clear hs)
      | fail)
     clear kk m0 m1 cn cv HR'
     have kk := thirteen (HS7.out.get 2 rfl)
     obtain ⟨m0, m1⟩ := two_cells (HS7.out.get 1 rfl)
     obtain ⟨ad', hadq, hc⟩ := shl_cells (HS7.out.get 4 rfl) (by omega)
     obtain rfl := Option.some.inj hadq
     obtain ⟨cn, cv, _⟩ := hc i (n, v) HXI.out
     simp only at cn cv
     clear hc hadq
     by_cases hns : n = s
     ·have hb : (n != s) = false := by simp [hns]
      go_quiet (fail)
      go_wp2
      go_roundw
      case rel => exact ⟨i + 1, A7, c7, F7, out ++ [(s, Value.slice AE xs.length ce)], true, by omega, by go_num, rfl, by simp, by simp at hol ⊢; omega, ⟨mem_snoc HO.out (by simp)⟩, ⟨by simpa using HS7.out.drewN _⟩⟩
      case measure => simp [intOf]; omega
     ·have hb : (n != s) = true := by simp [hns]
      go_quiet (fail)
      go_wp2_with (first
       | (at_builtin; refine app_one0 (d := oShl) (y := (n, v)) (HS7.out.drewN _) rfl _ _ 32 (.agg #[.int .i64 0, .slice none 0 0]) 32 (by rfl) Tryz.underlying32 (by kernel_rfl) rfl (by decide) (by decide) [.int .i64 n, v] (oShl_M H1.out) (by rfl) (by rfl) rfl (n := out.length + 1) (by simp) (by omega) ?_; intro A8 c8 w8 F8 hs; have HS8 := Aside0.mk hs; clear hs)
       | fail)
      go_roundw
      case rel => exact ⟨i + 1, A8, c8, F8, out ++ [(s, Value.slice AE xs.length ce)] ++ [(n, v)], true, by omega, by go_num, rfl, by simp, by simp at hol ⊢; omega, ⟨mem_snoc (mem_snoc HO.out (by simp)) HM.out⟩, ⟨by simpa using HS8.out⟩⟩
      case measure => simp [intOf]; omega
    ·have hg : decide (s ≤ n) = false := decide_eq_false hge
     have hb : (n != s) = true := by simp; omega
     go_quiet (fail)
     go_upto_region 9 with fail
     go_quiet (fail)
     go_wp2_with (first
      | (at_builtin; refine app_one0 (d := oShl) (y := (n, v)) (HR.out.drewN _) rfl _ _ 32 (.agg #[.int .i64 0, .slice none 0 0]) 32 (by rfl) Tryz.underlying32 (by kernel_rfl) rfl (by decide) (by decide) [.int .i64 n, v] (oShl_M H1.out) (by rfl) (by rfl) rfl (n := out.length) rfl (by omega) ?_; intro A8 c8 w8 F8 hs; have HS8 := Aside0.mk hs; clear hs)
      | fail)
     go_roundw
     case rel => exact ⟨i + 1, A8, c8, F8, out ++ [(n, v)], false, by omega, by go_num, rfl, by simp, by simp at hol ⊢; omega, ⟨mem_snoc HO.out HM.out⟩, ⟨by simpa using HS8.out⟩⟩
     case measure => simp [intOf]; omega
   ·go_quiet (fail)
    go_upto_region 9 with fail
    by_cases hns : n = s
    ·have hb : (n != s) = false := by simp [hns]
     go_quiet (fail)
     go_wp2
     go_roundw
     case rel => exact ⟨i + 1, A, c, F, out, true, by omega, by go_num, rfl, rfl, by simp at hol ⊢; omega, HO, ⟨HR.out.drewN _⟩⟩
     case measure => simp [intOf]; omega
    ·have hb : (n != s) = true := by simp [hns]
     go_quiet (fail)
     go_wp2_with (first
      | (at_builtin; refine app_one0 (d := oShl) (y := (n, v)) (HR.out.drewN _) rfl _ _ 32 (.agg #[.int .i64 0, .slice none 0 0]) 32 (by rfl) Tryz.underlying32 (by kernel_rfl) rfl (by decide) (by decide) [.int .i64 n, v] (oShl_M H1.out) (by rfl) (by rfl) rfl (n := out.length) rfl (by omega) ?_; intro A8 c8 w8 F8 hs; have HS8 := Aside0.mk hs; clear hs)
      | fail)
     go_roundw
     case rel => exact ⟨i + 1, A8, c8, F8, out ++ [(n, v)], true, by omega, by go_num, rfl, by simp, by simp at hol ⊢; omega, ⟨mem_snoc HO.out HM.out⟩, ⟨by simpa using HS8.out⟩⟩
     case measure => simp [intOf]; omega
  ·obtain rfl : i = es.length := by omega
   have gz := blk_frozen (HR.out.get 2 rfl)
   cases dn
   ·go_wp2_with (first
     | (at_builtin; refine app_one0 (d := oShl) (y := (s, Value.slice AE xs.length ce)) (HR.out) rfl _ _ 32 (.agg #[.int .i64 0, .slice none 0 0]) 32 (by rfl) Tryz.underlying32 (by kernel_rfl) rfl (by decide) (by decide) [.int .i64 s, Value.slice AE xs.length ce] (oShl_M rfl) (by rfl) (by rfl) rfl (n := out.length) (by simp) (by omega) ?_; intro A7 c7 w7 F7 hs; have HS7 := Aside0.mk hs; clear hs kk m0 m1 gz; have kk := thirteen (HS7.out.get 2 rfl); have gz := blk_frozen (HS7.out.get 2 rfl))
     | fail)
    go_end0
    have hq := HS7.out.setb 2 rfl 9 (.slice A7 (out.length + 1) c7) rfl
    simp only [qqN, qqT] at hq
    rw [show out.length + 1 = (out ++ [(s, Value.slice AE xs.length ce)]).length by simp] at hq ⊢
    exact ⟨rfl, put_done hq (mem_snoc HO.out (by simp)) (by simp at hol ⊢; omega) HG.out HX.out⟩
   ·go_wp2
    go_end0
    have hq := HR.out.setb 2 rfl 9 (.slice A out.length c) rfl
    simp only [qqN, qqT] at hq
    exact ⟨rfl, put_done hq HO.out (by simp at hol ⊢; omega) HG.out HX.out⟩
end DPut
namespace DGeo
open Go.RowKit RJ RP Go.Proofs.YtggmifnblcjdfaaGreatW.PrintWords Fp FpStep MInt MKinds MRead MMake MPut MHeld MOk MVal MSuper Go.Proofs.YtggmifnblcjdfaaGreat.Sep SepStep AKinds AOk AOkD AGeo
theorem geo_in {n s : Int} (hg : geoB n s = true) : (3 ≤ n ∧ n ≤ 5) ∧ 1 ≤ s ∧ s ≤ 8 := by simp [geoB, inR] at hg; omega
theorem blocks_le {n s : Int} (hg : geoB n s = true) : 2 ≤ s * (n - 1) ∧ s * (n - 1) ≤ 32 := by
 obtain ⟨⟨h1, h2⟩, h3, h4⟩ := geo_in hg
 obtain rfl | rfl | rfl : n = 3 ∨ n = 4 ∨ n = 5 := by omega
 all_goals omega
set_option maxHeartbeats 1000000 in
theorem c_specBlocks (n s : Int) (w : World) (hg : geoB n s = true) :
  Calls Tryz.prog 161 #[.agg #[.int .i64 n, .int .i64 s]] w fun e w' => e = .returned (.int .i64 (s * (n - 1))) ∧ Below w.heap.size w w' := by
 obtain ⟨⟨h1, h2⟩, h3, h4⟩ := geo_in hg
 have hb := blocks_le hg
 have ws : IntKind.i64.wrap (n - 1) = n - 1 := IntWalk.i64_in _ (by omega)
 have wm : IntKind.i64.wrap (s * (n - 1)) = s * (n - 1) := IntWalk.i64_in _ (by omega)
 have HG := Aside0.mk hg
 clear hg hb
 have H0 := Aside0.mk ((Sep.start w []).alloc (g := w.heap.size) rfl #[.int .i64 n, .int .i64 s] 30)
 go_enter Tryz.func161, Tryz.ntmps161
 go_wp2_with (first
  | (go_at_call 104; refine (c_specGeoOk _ _ _).mono ?_; rw [HG.out]; rintro e w1 ⟨rfl, hb⟩; have HS1 := Aside0.mk (H0.out.below hb); clear hb; obtain ⟨k0, k1⟩ := two_cells (HS1.out.get 0 rfl))
  | fail)
 go_ret
 exact ⟨by first | rfl | simp [ws, wm] | trivial, HS1.out.toBelow⟩
set_option maxHeartbeats 1000000 in
theorem c_specStripeOf (n s b : Int) (w : World) (hg : geoB n s = true) (hb : 0 ≤ b ∧ b < s * (n - 1)) :
  Calls Tryz.prog 172 #[.agg #[.int .i64 n, .int .i64 s], .int .i64 b] w fun e w' => (∃ q : Int, e = .returned (.int .i64 q) ∧ 0 ≤ q ∧ q < s) ∧ Below w.heap.size w w' := by
 obtain ⟨⟨h1, h2⟩, h3, h4⟩ := geo_in hg
 have hbl := blocks_le hg
 have ws : IntKind.i64.wrap (n - 1) = n - 1 := IntWalk.i64_in _ (by omega)
 have wm : IntKind.i64.wrap (s * (n - 1) - 1) = s * (n - 1) - 1 := IntWalk.i64_in _ (by omega)
 have hn0 : (n - 1 == 0) = false := by simp; omega
 have hnz : ¬ n - 1 = 0 := by omega
 have hin : inR b 0 (s * (n - 1) - 1) = true := by simp [inR]; omega
 have ht : b.tdiv (n - 1) = b / (n - 1) := Int.tdiv_eq_ediv_of_nonneg hb.1
 have hq0 : 0 ≤ b / (n - 1) := Int.ediv_nonneg hb.1 (by omega)
 have hq1 : b / (n - 1) < s := Int.ediv_lt_of_lt_mul (by omega) (by rw [Int.mul_comm] at *; omega)
 have HG := Aside0.mk hg
 have HI := Aside0.mk hin
 have HQ := Aside0.mk (And.intro ht (And.intro hq0 hq1))
 have HW := Aside0.mk (show wrap64 (b.tdiv (n - 1)) = b / (n - 1) by rw [ht]; exact IntWalk.wrap64_in _ (by omega))
 clear hg hin ht hq0 hq1 hbl
 have H0 := Aside0.mk ((Sep.start w []).alloc (g := w.heap.size) rfl #[.int .i64 n, .int .i64 s] 30)
 obtain ⟨k0, k1⟩ := two_cells (H0.out.get 0 rfl)
 go_enter Tryz.func172, Tryz.ntmps172
 go_upto_region 3 with (first
  | (go_at_call 70; refine (c_l1In _ _ _ _).mono ?_; rw [HI.out]; rintro e w2 ⟨rfl, hb⟩; have HS2 := Aside0.mk (HS1.out.dr hb); clear hb k0 k1; obtain ⟨k0, k1⟩ := two_cells (HS2.out.get 0 rfl))
  | (go_at_call 161; refine (c_specBlocks _ _ _ HG.out).mono ?_; rintro e w1 ⟨rfl, hb⟩; have HS1 := Aside0.mk (H0.out.below hb); clear hb k0 k1; obtain ⟨k0, k1⟩ := two_cells (HS1.out.get 0 rfl))
  | fail)
 go_wp2
 go_ret
 exact ⟨⟨_, rfl, by first | (rw [HW.out]; exact HQ.out.2) | (rw [HQ.out.1]; exact HQ.out.2) | exact HQ.out.2⟩, HS2.out.toBelow⟩
set_option maxHeartbeats 1000000 in
theorem c_specIndexOf (n s b : Int) (w : World) (hg : geoB n s = true) (hb : 0 ≤ b ∧ b < s * (n - 1)) :
  Calls Tryz.prog 174 #[.agg #[.int .i64 n, .int .i64 s], .int .i64 b] w fun e w' => (∃ q : Int, e = .returned (.int .i64 q) ∧ 0 ≤ q ∧ q < n - 1) ∧ Below w.heap.size w w' := by
 obtain ⟨⟨h1, h2⟩, h3, h4⟩ := geo_in hg
 have hbl := blocks_le hg
 have ws : IntKind.i64.wrap (n - 1) = n - 1 := IntWalk.i64_in _ (by omega)
 have wm : IntKind.i64.wrap (s * (n - 1) - 1) = s * (n - 1) - 1 := IntWalk.i64_in _ (by omega)
 have hn0 : (n - 1 == 0) = false := by simp; omega
 have hnz : ¬ n - 1 = 0 := by omega
 have hin : inR b 0 (s * (n - 1) - 1) = true := by simp [inR]; omega
 have ht : b.tmod (n - 1) = b % (n - 1) := Int.tmod_eq_emod_of_nonneg hb.1
 have hq0 : 0 ≤ b % (n - 1) := Int.emod_nonneg _ (by omega)
 have hq1 : b % (n - 1) < n - 1 := Int.emod_lt_of_pos _ (by omega)
 have HG := Aside0.mk hg
 have HI := Aside0.mk hin
 have HQ := Aside0.mk (And.intro ht (And.intro hq0 hq1))
 clear hg hin ht hq0 hq1 hbl
 have H0 := Aside0.mk ((Sep.start w []).alloc (g := w.heap.size) rfl #[.int .i64 n, .int .i64 s] 30)
 obtain ⟨k0, k1⟩ := two_cells (H0.out.get 0 rfl)
 go_enter Tryz.func174, Tryz.ntmps174
 go_upto_region 3 with (first
  | (go_at_call 70; refine (c_l1In _ _ _ _).mono ?_; rw [HI.out]; rintro e w2 ⟨rfl, hb⟩; have HS2 := Aside0.mk (HS1.out.dr hb); clear hb k0 k1; obtain ⟨k0, k1⟩ := two_cells (HS2.out.get 0 rfl))
  | (go_at_call 161; refine (c_specBlocks _ _ _ HG.out).mono ?_; rintro e w1 ⟨rfl, hb⟩; have HS1 := Aside0.mk (H0.out.below hb); clear hb k0 k1; obtain ⟨k0, k1⟩ := two_cells (HS1.out.get 0 rfl))
  | fail)
 go_wp2
 go_ret
 exact ⟨⟨_, rfl, by first | (rw [HQ.out.1]; exact HQ.out.2) | exact HQ.out.2⟩, HS2.out.toBelow⟩
end DGeo
namespace DEnd
open Go.RowKit Fp MKinds MRead MMake Go.Proofs.YtggmifnblcjdfaaGreat.Sep SepStep AKinds ASyncF DRes DInv
def PtR (w0 : World) (g : Nat) (L : List Res) (b d : Int) (e : Ending) (w' : World) : Prop := ∃ c a', e = .returned (.int .i64 c) ∧ Fit b d a' ∧ Bx w0 w' g a' L
theorem pt_end {w0 w' : World} {g : Nat} {L : List Res} {b d c : Int} {a' : ArrV} {e : Ending} (he : e = .returned (.int .i64 c)) (h1 : Fit b d a') (h2 : Bx w0 w' g a' L) : PtR w0 g L b d e w' := ⟨c, a', he, h1, h2⟩
def sLen : Option Value → Nat
 | some (.slice _ n _) => n
 | _ => 0
theorem Bx.len {w0 w : World} {g : Nat} {a : ArrV} {L : List Res} (h : Bx w0 w g a L) : sLen (w.cell? ⟨g, 9, none⟩) = a.dirty.length := by
 obtain ⟨hh, c1, A2, c2, F1, F2, F3, es, hel, hs⟩ := h
 rw [(thirteen (hs.get 0 rfl)).2.2.2.2.2.2.2.2.2.1]; rfl
theorem mem_store {w : World} {e : TypeId} {F : List Nat} {g n cap i : Nat} {xs : List MemV} {x : MemV} (h : oMem.O e w F (.slice (some ⟨g, 0, none⟩) n cap) xs) (hi : xs[i]? = some x) :
  ∃ A1 c1 A2 c2 A3 c3, (w.cell? ⟨g, i * 4, none⟩ = some (.slice A1 x.secs.length c1) ∧ w.cell? ⟨g, i * 4 + 1, none⟩ = some (.slice A2 x.cache.length c2) ∧ w.cell? ⟨g, i * 4 + 2, none⟩ = some (.bool x.failed) ∧ w.cell? ⟨g, i * 4 + 3, none⟩ = some (.slice A3 x.bad.length c3)) ∧ (w.frozen? ⟨g, i * 4, none⟩ = false ∧ w.frozen? ⟨g, i * 4 + 1, none⟩ = false ∧ w.frozen? ⟨g, i * 4 + 2, none⟩ = false ∧ w.frozen? ⟨g, i * 4 + 3, none⟩ = false) ∧ MemR w (.agg #[.slice A1 x.secs.length c1, .slice A2 x.cache.length c2, .bool x.failed, .slice A3 x.bad.length c3]) x := by
 obtain ⟨_, A1, c1, A2, c2, A3, c3, m0, m1, m2, m3, hM, hfr⟩ := mem_at h hi
 exact ⟨A1, c1, A2, c2, A3, c3, ⟨m0, m1, m2, m3⟩, ⟨by have := hfr 0; rwa [Nat.add_zero] at this, hfr 1, hfr 2, hfr 3⟩, hM⟩
theorem store_mem {w0 w : World} {S : List Nat} {X : List Res} {g hh n c m d1 d2 d3 : Nat} {t e : TypeId} {cs : Array Value} {B1 B2 B3 : Option Addr} {y : MemV} {F4 F1 : List Nat} {mems : List MemV}
  (H : Sep w0 S w (me F4 (.agg #[.slice B1 y.secs.length d1, .slice B2 y.cache.length d2, .bool y.failed, .slice B3 y.bad.length d3]) y :: bx g t cs :: rw_ oMem e F1 (.slice (some ⟨hh, 0, none⟩) n c) mems :: X)) (hm : m < mems.length) :
  ∃ w3 F5, ((((w.setCell ⟨hh, m * 4, none⟩ (.slice B1 y.secs.length d1)).setCell ⟨hh, m * 4 + 1, none⟩ (.slice B2 y.cache.length d2)).setCell ⟨hh, m * 4 + 2, none⟩ (.bool y.failed)).setCell ⟨hh, m * 4 + 3, none⟩ (.slice B3 y.bad.length d3)) = w3 ∧ Sep w0 S w3 (bx g t cs :: rw_ oMem e F5 (.slice (some ⟨hh, 0, none⟩) n c) (mems.set m y) :: X) := by
 have h1 := H.selT 3 [2, 0, 1] (by decide) (by simp <;> omega)
 simp only [qqN, qqT] at h1
 obtain ⟨F5, hput⟩ := Sep.put (d := oMem) (i := m) (y := y) (us := [.slice B1 y.secs.length d1, .slice B2 y.cache.length d2, .bool y.failed, .slice B3 y.bad.length d3]) h1 hm (oMem_M.2 (H.get 0 rfl))
 have hq := hput.selT 2 [1, 0] (by decide) (by simp <;> omega)
 simp only [qqN, qqT] at hq
 exact ⟨_, F5, rfl, hq⟩
end DEnd
namespace DSet
open Go.RowKit RJ RP Go.Proofs.YtggmifnblcjdfaaGreatW.PrintWords Fp FpStep MInt MKinds MRead MMake MPut MHeld MOk MVal MSuper Go.Proofs.YtggmifnblcjdfaaGreat.Sep SepStep AKinds AOk AOkD AData DRes DInv DAt DPut DGeo DEnd
set_option maxHeartbeats 4000000 in
set_option maxRecDepth 100000 in
theorem c_l8Set {w0 w : World} {g : Nat} {a : ArrV} {L : List Res} {bk n b d : Int} (h : Bx w0 w g a L) (hG : Fit b d a) (hd : d ≤ 1000) (hb : 0 ≤ bk ∧ bk < a.gs * (a.gn - 1)) :
  Calls Tryz.prog 160 #[.pointer (some ⟨g, 0, none⟩), .int .i64 bk, .int .i64 n] w (PtR w0 g L b (d + 1)) := by
 obtain ⟨hh, c1, A2, c2, F1, F2, F3, es, hel, hs⟩ := h
 have HG := Aside0.mk hG
 have HB := Aside0.mk hb
 have HEL := Aside0.mk hel
 have hn := hG.n
 have HN := Aside0.mk hG.n
 have HI := Aside0.mk hs
 clear hs hG hel hb
 simp only [arrC] at *
 have kk := thirteen (HI.out.get 0 rfl)
 go_enter Tryz.func160, Tryz.ntmps160
 go_upto_region 3 with (first
  | (go_at_call 173; refine (c_l8Stripe (box_R (es := es) HS1.out) HG.out hd HIN.out).mono ?_; rintro e w2 ⟨u, F4, ok, xs, rfl, hok, hn2⟩; have HS2 := Aside0.mk (HS1.out.new hn2); have HOK := Aside0.mk hok; clear hn2 hok kk)
  | (go_at_call 172; refine (c_specStripeOf _ _ _ _ HG.out.geo HB.out).mono ?_; rintro e w1 ⟨⟨s, rfl, hs0, hs1⟩, hb⟩; have HS1 := Aside0.mk (HI.out.below hb); have HIN := Aside0.mk (show inR s 0 (a.gs - 1) = true by simp [inR]; omega); clear hb kk hs0 hs1; have kk := thirteen (HS1.out.get 0 rfl))
  | fail)
 cases ok
 ·go_wp2
  go_ret
  have hq := HS2.out.drop 0 rfl
  simp only [qqN] at hq
  exact pt_end rfl (HG.out.le (by omega) (by omega)) (Bx.le HEL.out hq)
 ·have HXL := Aside0.mk (HOK.out rfl)
  obtain ⟨gl, cl, rfl, _, _⟩ := O_form (show oInt.O 3 w2 F4 u xs from HS2.out.get 0 rfl) (by have := HXL.out; omega)
  have kk := thirteen (HS2.out.get 1 rfl)
  go_upto_region 5 with fail
  go_upto_region 6 with (first
   | (go_at_call 174; refine (c_specIndexOf _ _ _ _ HG.out.geo HB.out).mono ?_; rintro e w3 ⟨⟨j0, rfl, hj0, hj1⟩, hb⟩; have HS3 := Aside0.mk (HS2.out.below hb); clear hb kk; obtain ⟨j, rfl⟩ := Int.eq_ofNat_of_zero_le hj0; have hj2 : j < xs.length := (by have := HXL.out; omega); have hj3 : (j : Int) < (xs.length : Int) := (by omega); obtain ⟨y, hy⟩ : ∃ y, xs[j]? = some y := ⟨_, List.getElem?_eq_getElem hj2⟩; have cj := O_int_at (show oInt.O 3 w3 F4 (.slice (some ⟨gl, 0, none⟩) xs.length cl) xs from HS3.out.get 0 rfl) hy; have fj := (O_int_cell (show oInt.O 3 w3 F4 (.slice (some ⟨gl, 0, none⟩) xs.length cl) xs from HS3.out.get 0 rfl) hj2).2; clear hy)
   | fail)
  have hq := HS3.out.seti 0 rfl hj2 n
  generalize w3.setCell ⟨gl, j, none⟩ (.int .i64 n) = w4 at *
  have hyl : (xs.set j n).length = xs.length := by simp
  generalize xs.set j n = ys at *
  have hq2 := hq.selT 5 [1, 2, 3, 4, 0] (by decide) (by simp <;> omega)
  simp only [qqN, qqT] at hq2
  rw [← hyl] at hq2 HXL
  rw [← hyl]
  have HB5 := Aside0.mk (show Bx w0 w4 g a (rw_ oInt 3 F4 (.slice (some ⟨gl, 0, none⟩) ys.length cl) ys :: L) from ⟨hh, c1, A2, c2, F1, F2, F3, es, HEL.out, hq2⟩)
  clear hq hq2 cj fj hyl hj2 hj3
  go_wp2_with (first
   | (go_at_call 175; refine (c_l8Put HB5.out HG.out HXL.out hd).mono ?_; rintro e w5 ⟨rfl, a', hg', hb'⟩; have HE := Aside0.mk (And.intro hg' hb'); clear hg' hb')
   | fail)
  go_ret
  exact pt_end rfl HE.out.1 HE.out.2
end DSet
end Go.Proofs.YtggmifnblcjdfaaGreat
