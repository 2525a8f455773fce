/- Own text: ABun4. -/
import Derived.Test.YtggmifnblcjdfaaGreatXB1
import Derived.Test.YtggmifnblcjdfaaGreatXABun3
import Derived.Test.YtggmifnblcjdfaaGreatXB2
import Derived.Test.YtggmifnblcjdfaaGreatXB3
import Derived.Lib.SliceRun
import Derived.Test.YtggmifnblcjdfaaGreatXB4
import Derived.Test.YtggmifnblcjdfaaGreatXB5
import Derived.Test.YtggmifnblcjdfaaGreatXAOkA
set_option linter.unusedVariables false
set_option linter.unusedSimpArgs false
namespace Go.Proofs.YtggmifnblcjdfaaGreat
namespace RPC
open Go RJ RP
section
variable {P : Program} {ops : Array Oper} {Q : Exit → Act → World → Prop} {md : Region.Mode} {S : World → Prop} {T : List Nat}
def reach (md : Region.Mode) (ops : Array Oper) : Nat → Nat → Nat → Bool
 | 0, _, _ => false
 | n + 1, j, i => match ops[j]? with
  | some o => o.after.any (fun e => Region.binds md e && (e.on == i || reach md ops n e.on i))
  | none => false
theorem reach_some {n i j : Nat} (h : reach md ops (n + 1) j i = true) : ∃ o e, ops[j]? = some o ∧ e ∈ o.after ∧ Region.binds md e = true ∧ (e.on = i ∨ reach md ops n e.on i = true) := by
 rw [reach] at h
 cases ho : ops[j]? with
 | none => rw [ho] at h; cases h
 | some o =>
  rw [ho] at h
  obtain ⟨e, he, h2⟩ := Array.any_eq_true'.1 h
  rw [Bool.and_eq_true, Bool.or_eq_true, beq_iff_eq] at h2
  exact ⟨o, e, rfl, he, h2.1, h2.2⟩
theorem some_reach {n i j : Nat} (h : ∃ o e, ops[j]? = some o ∧ e ∈ o.after ∧ Region.binds md e = true ∧ (e.on = i ∨ reach md ops n e.on i = true)) : reach md ops (n + 1) j i = true := by
 obtain ⟨o, e, ho, he, hb, h1⟩ := h
 rw [reach, ho]
 refine Array.any_eq_true'.2 ⟨e, he, ?_⟩
 rw [Bool.and_eq_true, Bool.or_eq_true, beq_iff_eq]
 exact ⟨hb, h1⟩
theorem reach_up {i : Nat} : ∀ (n j : Nat), reach md ops n j i = true → reach md ops (n + 1) j i = true
 | 0, j, h => by cases h
 | n + 1, j, h => by
  obtain ⟨o, e, ho, he, hb, h1⟩ := reach_some h
  exact some_reach ⟨o, e, ho, he, hb, h1.imp_right (reach_up n e.on)⟩
theorem reach_step {n i j : Nat} (h : reach md ops n j i = true) : ∃ o e, ops[j]? = some o ∧ e ∈ o.after ∧ Region.binds md e = true ∧ (e.on = i ∨ reach md ops n e.on i = true) := by
 cases n with
 | zero => cases h
 | succ n =>
  obtain ⟨o, e, ho, he, hb, h1⟩ := reach_some h
  exact ⟨o, e, ho, he, hb, h1.imp_right (reach_up n e.on)⟩
theorem reach_lt {n i j : Nat} (h : reach md ops n j i = true) : j < ops.size := by
 obtain ⟨o, e, ho, _⟩ := reach_step h
 exact (Array.getElem?_eq_some_iff.1 ho).1
theorem wpAnyP_first2 {i : Nat} {oi : Oper} {v : Value} (hi : ops[i]? = some oi) (hsel : ∀ (j : Nat) (o : Oper) cs b, ops[j]? = some o → o.op ≠ .select cs b)
  (hQ : ∀ c a w, Q (.panic c) (a.put oi.dst v) w → Q (.panic c) a w) {C : Nat → Prop} (hT : ∀ j, T.contains j = true → C j) (hC : ∀ j, C j → ∃ o e, ops[j]? = some o ∧ e ∈ o.after ∧ Region.binds md e = true ∧ (e.on = i ∨ C e.on)) :
  ∀ (fuel : Nat) (listed : Array Bool) (a : Act) (w : World),
   (∀ j oj, ops[j]? = some oj → j ≠ i → listed.getD j true = false → (∀ e ∈ oj.after, Region.binds md e = true → e.on ≠ i) → oi.apart ops oj = true) →
   (∀ k, C k → listed.getD k true = false) → i ∈ Region.ready md ops listed → YieldsIf P ops S oi v a → S w →
   wpAnyP P md ops Q S T fuel (listed.setIfInBounds i true) (a.put oi.dst v) w → wpAnyP P md ops Q S T (fuel + 1) listed a w := by
 intro fuel
 induction fuel with
 | zero =>
  intro listed a w _ hCl hr hy hS H
  refine ⟨fun h => (by rw [h] at hr; cases hr), fun j hj => ?_⟩
  by_cases hji : j = i
  ·subst hji; exact hy.wpOp hi hS ⟨fun _ h => h, H⟩
  ·have := ready_mono hj hji
   rw [H.1] at this
   cases this
 | succ fuel ih =>
  intro listed a w hfree hCl hr hy hS H
  refine ⟨fun h => (by rw [h] at hr; cases hr), fun j hj => ?_⟩
  by_cases hji : j = i
  ·subst hji; exact hy.wpOp hi hS ⟨fun _ h => h, H⟩
  ·have h1 := H.2 j (ready_mono hj hji)
   obtain ⟨hjun, oj, hoj, hall⟩ := mem_ready.1 hj
   have hnot : ∀ e ∈ oj.after, Region.binds md e = true → e.on ≠ i := fun e he hb heq => by
    have h1 := hall e he hb
    have h0 := (mem_ready.1 hr).1
    rw [heq] at h1
    rcases Nat.lt_or_ge i listed.size with h' | h'
    ·simp [h'] at h0 h1; rw [h0] at h1; cases h1
    ·simp [Array.getElem?_eq_none h'] at h1
   have hCj : ¬ C j := fun hc => by
    obtain ⟨o2, e, ho2, he, hb, hon⟩ := hC j hc
    have : o2 = oj := Option.some.inj (ho2.symm.trans hoj)
    subst this
    rcases hon with hon | hk
    ·exact absurd hon (hnot e he hb)
    ·have h6 := hall e he hb
     have h7 := hCl _ hk
     rcases Nat.lt_or_ge e.on listed.size with h' | h'
     ·simp [h'] at h6 h7; rw [h6] at h7; cases h7
     ·simp [Array.getElem?_eq_none h'] at h6
   have hTj : T.contains j = false := by
    by_cases hc : T.contains j = true
    ·exact absurd (hT j hc) hCj
    ·simpa using hc
   have hCl' : ∀ k, C k → (listed.setIfInBounds j true).getD k true = false := fun k hk => by
    rw [getD_set_ne true (fun h => hCj (by rw [h]; exact hk))]; exact hCl k hk
   have h2 := wpOp_putIf hoj (hfree j oj hoj hji hjun hnot) (fun cs b => hsel i oi cs b hi) (fun cs b => hsel j oj cs b hoj) hQ hy h1
   have hfree' : ∀ k ok, ops[k]? = some ok → k ≠ i → (listed.setIfInBounds j true).getD k true = false →
     (∀ e ∈ ok.after, Region.binds md e = true → e.on ≠ i) → oi.apart ops ok = true := fun k ok hk hki hun hno => by
    refine hfree k ok hk hki ?_ hno
    by_cases hjk : j = k
    ·subst hjk; exact hjun
    ·rw [getD_set_ne true hjk] at hun; exact hun
   refine wpOp_mono (fun a' w' h3 => ⟨h3.2.1, ih (listed.setIfInBounds j true) a' w' hfree' hCl' (ready_mono hr (Ne.symm hji)) h3.1 (h3.2.1 hTj hS) ?_⟩) h2
   rw [Array.setIfInBounds_comm _ _ hji]
   exact h3.2.2
def seqPC (md : Region.Mode) (ops : Array Oper) (T : List Nat) : List (Nat × Nat) → Array Bool → Bool
 | [], listed => (Region.ready md ops listed).isEmpty
 | (i, 1) :: r, listed => (Region.ready md ops listed).contains i && Region.free md ops listed i && T.all (fun j => reach md ops 5 j i) && (List.range ops.size).all (fun k => !reach md ops 5 k i || !listed.getD k true) && seqPC md ops T r (listed.setIfInBounds i true)
 | (i, 2) :: r, listed => (Region.ready md ops listed).contains i && Region.free md ops listed i && seqPC md ops T r (listed.setIfInBounds i true)
 | (i, _) :: r, listed => decide (Region.ready md ops listed = [i]) && seqPC md ops T r (listed.setIfInBounds i true)
theorem anyP_of_seqc (hs : Region.noSelect ops = true) : ∀ (sched : List (Nat × Nat)) (listed : Array Bool) (a : Act) (w : World), seqPC md ops T sched listed = true → wpSeqP P ops Q S T sched a w → wpAnyP P md ops Q S T sched.length listed a w
 | [], listed, a, w, hB, h => ⟨by simpa [seqPC] using hB, h⟩
 | (i, 1) :: r, listed, a, w, hB, h => by
  obtain ⟨hS, o, v, hi, hQ, hy, h'⟩ := h
  simp only [seqPC, Bool.and_eq_true] at hB
  obtain ⟨⟨⟨⟨hr, hf⟩, hT⟩, hl⟩, hB'⟩ := hB
  refine wpAnyP_first2 (C := fun k => reach md ops 5 k i = true) hi (Region.noSelect_spec hs) hQ (fun j hj => List.all_eq_true.1 hT j (by simpa using hj)) (fun j hj => reach_step hj) r.length listed a w (Region.free_spec hi hf) (fun k hk => ?_) (by simpa using hr) hy hS (anyP_of_seqc hs r _ _ _ hB' h')
  have h1 := List.all_eq_true.1 hl k (List.mem_range.2 (reach_lt hk))
  have hk2 : reach md ops 5 k i = true := hk
  rw [hk2] at h1
  simpa using h1
 | (i, 2) :: r, listed, a, w, hB, h => by
  obtain ⟨o, v, hi, hQ, hy, h'⟩ := h
  simp only [seqPC, Bool.and_eq_true] at hB
  obtain ⟨⟨hr, hf⟩, hB'⟩ := hB
  exact wpAnyP_pure hi (Region.noSelect_spec hs) hQ r.length listed a w (Region.free_spec hi hf) (by simpa using hr) hy (anyP_of_seqc hs r _ _ _ hB' h')
 | (i, 0) :: r, listed, a, w, hB, h => by
  simp only [seqPC, Bool.and_eq_true, decide_eq_true_eq] at hB
  refine ⟨fun h1 => (by rw [hB.1] at h1; cases h1), fun j hj => ?_⟩
  rw [hB.1] at hj
  have hji : j = i := by simpa using hj
  subst hji
  exact wpOp_mono (fun a' w' h' => ⟨h'.1, anyP_of_seqc hs r _ a' w' hB.2 h'.2⟩) h
 | (i, n + 3) :: r, listed, a, w, hB, h => by
  simp only [seqPC, Bool.and_eq_true, decide_eq_true_eq] at hB
  refine ⟨fun h1 => (by rw [hB.1] at h1; cases h1), fun j hj => ?_⟩
  rw [hB.1] at hj
  have hji : j = i := by simpa using hj
  subst hji
  exact wpOp_mono (fun a' w' h' => ⟨h'.1, anyP_of_seqc hs r _ a' w' hB.2 h'.2⟩) h
theorem wp_region_seqc {id : Nat} {a : Act} {w : World} (S : World → Prop) (T : List Nat) (sched : List (Nat × Nat)) (hm : P.follows .mixedOrders = true)
  (hB : (Region.noSelect ops && decide (sched.length = ops.size) && seqPC .any ops T sched (Array.replicate ops.size false)) = true)
  (h : wpSeqP P ops Q S T sched a w.drew) : (Code.region id ops true).wp P Q a w := by
 simp only [Bool.and_eq_true, decide_eq_true_eq] at hB
 obtain ⟨⟨hs, hl⟩, hB'⟩ := hB
 have h1 := anyP_of_seqc (md := .any) hs sched _ _ _ hB' h
 rw [hl] at h1
 exact wp_region_any hm (wpAny_of_P _ _ _ _ h1)
end
end RPC
namespace AMarkV
open Go.RowKit MKinds MRead MPut MHeld MOk MVal MSuper LawLib AKinds AMark AOpV ASyncF
theorem putSup_len (s : SupV) : (putSup s).length ≤ 9 := by unfold putSup; split <;> simp [supL]
def putV (a : ArrV) (i : Nat) (n : Int) (s : List Int) : ArrV := turnV a i (fun m => writeV m n s)
def supOf (a : ArrV) (i : Nat) : SupV := ⟨a.id, a.gen, i, a.gn, a.gs, a.tail, a.lost, a.built⟩
def putN (a : ArrV) : Nat → ArrV
 | 0 => a
 | i + 1 => putV (putN a i) i (a.gen % 2) (putSup (supOf a i))
def genV (a : ArrV) : ArrV := { a with gen := a.gen + 1 }
def markV (a : ArrV) : ArrV := syncV (putN (genV a) a.mems.length)
def tailV (a : ArrV) : ArrV := { a with tail := a.seq }
def checkV (a : ArrV) : ArrV := if (syncV a).down then syncV a else markV (tailV (syncV a))
structure Same (a b : ArrV) : Prop where
 id : b.id = a.id
 gn : b.gn = a.gn
 gs : b.gs = a.gs
 lost : b.lost = a.lost
 built : b.built = a.built
 seq : b.seq = a.seq
 tail : b.tail = a.tail
 gen : b.gen = a.gen
 dirty : b.dirty = a.dirty
 broken : b.broken = a.broken
 len : b.mems.length = a.mems.length
theorem Same.refl (a : ArrV) : Same a a := ⟨rfl, rfl, rfl, rfl, rfl, rfl, rfl, rfl, rfl, rfl, rfl⟩
theorem Same.trans {a b c : ArrV} (h : Same a b) (g : Same b c) : Same a c :=
 ⟨g.id.trans h.id, g.gn.trans h.gn, g.gs.trans h.gs, g.lost.trans h.lost, g.built.trans h.built, g.seq.trans h.seq, g.tail.trans h.tail, g.gen.trans h.gen, g.dirty.trans h.dirty, g.broken.trans h.broken, g.len.trans h.len⟩
theorem opV_same (a : ArrV) : Same a (opV a) := by
 unfold opV; split; exact Same.refl a; split
 ·exact ⟨rfl, rfl, rfl, rfl, rfl, rfl, rfl, rfl, rfl, rfl, rfl⟩
 ·split
  ·exact ⟨rfl, rfl, rfl, rfl, rfl, rfl, rfl, rfl, rfl, rfl, rfl⟩
  ·exact Same.refl a
theorem setM_same (a : ArrV) (i : Nat) (m : MemV) : Same a (setM a i m) := ⟨rfl, rfl, rfl, rfl, rfl, rfl, rfl, rfl, rfl, rfl, by simp [setM]⟩
theorem turnV_same (a : ArrV) (i : Nat) (f : MemV → MemV) : Same a (turnV a i f) := by
 unfold turnV
 split
 ·split
  ·exact Same.refl a
  ·split
   ·exact (opV_same a).trans (setM_same _ i _)
   ·exact opV_same a
 ·exact Same.refl a
theorem putN_same (a : ArrV) : ∀ i, Same a (putN a i)
 | 0 => Same.refl a
 | i + 1 => (putN_same a i).trans (turnV_same _ _ _)
theorem syncN_same (a : ArrV) : ∀ i, Same a (syncN a i)
 | 0 => Same.refl a
 | i + 1 => (syncN_same a i).trans (turnV_same _ _ _)
theorem putN_stay {a : ArrV} {i : Nat} (h : (putN a i).down = true) : ∀ d, putN a (i + d) = putN a i
 | 0 => rfl
 | d + 1 => by rw [← Nat.add_assoc, putN, putN_stay h d, putV, turnV_down h]
theorem syncV_of_down {a : ArrV} (h : a.down = true) : syncV a = a := (syncV_down (a := a) (i := 0) h (Nat.zero_le _))
theorem markV_down {a : ArrV} {i : Nat} (h : (putN (genV a) i).down = true) (hi : i ≤ a.mems.length) : markV a = putN (genV a) i := by
 have h1 := putN_stay h (a.mems.length - i)
 rw [show i + (a.mems.length - i) = a.mems.length by omega] at h1
 unfold markV
 rw [h1, syncV_of_down h]
theorem putN_small {a : ArrV} (h : ∀ m ∈ a.mems, Small m) : ∀ i, ∀ m ∈ (putN a i).mems, Small m
 | 0 => h
 | i + 1 => turnV_all (P := Small) (putN_small h i) (fun m hm => small_write hm (by have := putSup_len (supOf a i); omega))
theorem putN_fuse {a : ArrV} (h : a.fuse ≤ 1000) : ∀ i, (putN a i).fuse ≤ 1000
 | 0 => h
 | i + 1 => turnV_fuse (putN_fuse h i)
theorem markV_len (a : ArrV) : (markV a).mems.length = a.mems.length := ((putN_same (genV a) _).trans (syncN_same _ _)).len
theorem markV_dirty (a : ArrV) : (markV a).dirty = a.dirty := ((putN_same (genV a) _).trans (syncN_same _ _)).dirty
theorem checkV_len (a : ArrV) : (checkV a).mems.length = a.mems.length := by
 unfold checkV
 split
 ·exact syncN_len a _
 ·rw [markV_len]; exact syncN_len a _
theorem checkV_dirty (a : ArrV) : (checkV a).dirty = a.dirty := by
 unfold checkV
 split
 ·exact syncN_dirty a _
 ·rw [markV_dirty]; exact syncN_dirty a _
end AMarkV
namespace MDel
open Go.RowKit RJ Go.Proofs.YtggmifnblcjdfaaGreatW.PrintWords Fp FpStep MInt MKinds MRead MMake MPut MVal Go.Proofs.YtggmifnblcjdfaaGreat.Sep SepStep
theorem c_isn {w : World} {x n : Int} {b : Nat} (h : w.cell? ⟨b, 0, none⟩ = some (.int .i64 n)) :
  Calls Tryz.prog 170 #[.int .i64 x, .pointer (some ⟨b, 0, none⟩)] w fun e w' => e = .returned (.bool (x == n)) ∧ ∃ q, w' = w.drewN q := by
 go_enter Tryz.func170, Tryz.ntmps170
 go_wp2
 go_ret
 exact ⟨rfl, 0, rfl⟩
set_option maxHeartbeats 1000000 in
theorem c_IndexFunc {w : World} {v : Value} {xs : List Int} {n : Int} {b : Nat} (h : RK kInt w v xs) (hb : w.cell? ⟨b, 0, none⟩ = some (.int .i64 n)) :
  Calls Tryz.prog 179 #[v, .func (.func 170) #[] #[.pointer (some ⟨b, 0, none⟩)]] w fun e w' =>
   ((e = .returned (.int .i64 (-1)) ∧ xs.all (fun x => !(x == n)) = true) ∨ (∃ k : Nat, k < xs.length ∧ e = .returned (.int .i64 (k : Int)) ∧ (xs.take k).all (fun x => !(x == n)) = true ∧ xs[k]? = some n)) ∧ ∃ q, w' = w.drewN q := by
 have lx := RK_len h
 by_cases hn : 0 < xs.length
 ·obtain ⟨ad, cap, rfl, hc⟩ := ints_at h hn
  have Hc := Aside0.mk hc
  have Hb := Aside0.mk hb
  clear h hc hb
  go_enter Tryz.func179, Tryz.ntmps179
  go_wp2
  go_loopw [8] (fun v8 wr => ∃ i : Nat, i ≤ xs.length ∧ v8 = .int .i64 i ∧ Aside0 ((xs.take i).all (fun x => !(x == n)) = true) ∧ Aside0 (Dr w wr)) (fun v8 _ => xs.length - (intOf v8).toNat)
  case atStart => exact ⟨0, by omega, rfl, ⟨by simp⟩, ⟨Dr.refl _⟩⟩
  case round =>
   obtain ⟨i, hi, rfl, ht, hd⟩ := hrel
   by_cases hlt : i < xs.length
   ·obtain ⟨x, hxi⟩ : ∃ x, xs[i]? = some x := ⟨_, List.getElem?_eq_getElem hlt⟩
    have ca := hd.out.cell (Hc.out i x hxi)
    have Hxi := Aside0.mk hxi
    clear hxi
    by_cases hxy : x = n
    ·subst hxy
     have hT : (x == x) = true := by simp
     go_wp2_with (first | (go_at_call 170; refine (c_isn (hd.out.cell Hb.out)).mono ?_; rw [hT]; rintro e w1 ⟨rfl, hq⟩; have HQ := Aside0.mk (hd.out.trans hq); clear hq) | fail)
     go_ret
     exact ⟨.inr ⟨i, hlt, rfl, ht.out, Hxi.out⟩, HQ.out⟩
    ·have hxy' : (x == n) = false := by simpa using hxy
     go_wp2_with (first | (go_at_call 170; refine (c_isn (hd.out.cell Hb.out)).mono ?_; rw [hxy']; rintro e w1 ⟨rfl, hq⟩; have HQ := Aside0.mk (hd.out.trans hq); clear hq) | fail)
     go_roundw
     case rel => exact ⟨i + 1, by omega, by go_num, ⟨all_take ht.out Hxi.out (by simp [hxy'])⟩, HQ⟩
     case measure => simp [intOf]; omega
   ·obtain rfl : i = xs.length := by omega
    have hd2 : xs.all (fun x => !(x == n)) = true := by
     have h1 := ht.out
     rwa [List.take_of_length_le (by omega)] at h1
    go_wp2
    go_ret
    exact ⟨.inl ⟨rfl, hd2⟩, hd.out⟩
 ·have h2 : xs = [] := List.eq_nil_of_length_eq_zero (by omega)
  subst h2
  obtain ⟨A, ca, rfl, _, _⟩ := h
  go_enter Tryz.func179, Tryz.ntmps179
  go_wp2
  refine wp_loop_rounds 1 ?_
  rw [rounds_succ]
  go_wp2
  go_ret
  exact ⟨.inl ⟨rfl, rfl⟩, 0, rfl⟩
theorem O_int_tail {k : IntKind} {e : TypeId} {w : World} {F : List Nat} {g n cap : Nat} {l : List Int} (h : (Od.int k).O e w F (.slice (some ⟨g, 0, none⟩) n cap) l) {i : Nat} (vs : List Value) (hi : i + vs.length = l.length) :
  (Od.int k).O e (w.setCells g i vs) F (.slice (some ⟨g, 0, none⟩) i cap) (l.take i) := by
 obtain ⟨hr, rfl⟩ := O_int_row h
 obtain ⟨hl, hr⟩ := hr
 rcases hr with ⟨h', _⟩ | ⟨g', cap', cur, h', hb, hg, hn, hc, hs, ht⟩
 ·simp at h'
 ·simp only [Value.slice.injEq, Option.some.injEq, Addr.mk.injEq, and_true, true_and] at h'
  obtain ⟨rfl, hn2, rfl⟩ := h'
  obtain ⟨cur', h3, h4, h5⟩ := setCells_row vs i w cur hg (by rw [hs]; omega)
  have hti : (l.take i).length = i := by rw [List.length_take]; omega
  refine O_int k ⟨by simp [nums]; omega, .inr ⟨g, cap, cur', rfl, hb, h3, by omega, hc, by rw [h4, hs], ?_⟩⟩ hti.symm
  rw [h5, Nat.mul_one, List.append_assoc, List.take_append_of_le_length (by rw [List.length_take, Array.length_toList, hs]; omega), List.take_take, Nat.min_self]
  have h6 : (cur.toList.take (l.length * 1)).take i = (nums k l).take i := by rw [ht]
  rw [List.take_take, Nat.mul_one, Nat.min_eq_left (by omega)] at h6
  rw [h6]; simp [nums, List.map_take]
theorem drop_succ_ {ys xs : List Int} {j : Nat} (h : ys.drop j = xs.drop j) : ys.drop (j + 1) = xs.drop (j + 1) := by
 have := congrArg (List.drop 1) h
 simpa [List.drop_drop] using this
theorem chg_cells {S : List Nat} {a w : World} {g : Nat} (h : Chg S a w) (hg : g ∈ S) (o : Nat) (vs : List Value) : Chg S a (w.setCells g o vs) := by
 obtain ⟨h1, h2, h3, h4⟩ := setCells_same g vs o w
 exact h.trans ⟨h1, h2, h3, by rw [h4]; exact Nat.le_refl _, fun k _ hn => setCells_far vs o k (fun e => hn (e ▸ hg))⟩
theorem filter_all {l : List Int} {n : Int} (h : l.all (fun x => !(x == n)) = true) : l.filter (fun x => !(x == n)) = l := List.filter_eq_self.2 (fun x hx => List.all_eq_true.1 h x hx)
set_option maxHeartbeats 2000000 in
theorem c_DeleteFunc {w : World} {v : Value} {F : List Nat} {xs : List Int} {n : Int} {b : Nat} (h : oInt.O 3 w F v xs) (hnd : F.Nodup) (hb : w.cell? ⟨b, 0, none⟩ = some (.int .i64 n)) (hbF : b ∉ F) :
  Calls Tryz.prog 169 #[v, .func (.func 170) #[] #[.pointer (some ⟨b, 0, none⟩)]] w fun e w' =>
   ∃ u, e = .returned u ∧ Upd w w' F (rw_ oInt 3 F u (without xs n)) := by
 have hR := O_RK h
 have lx := RK_len hR
 have Hb := Aside0.mk hb
 have HO := Aside0.mk h
 have Hn := Aside0.mk (And.intro hnd hbF)
 clear hb hbF hnd
 by_cases hall : xs.all (fun x => !(x == n)) = true
 ·obtain ⟨A, c, rfl, _⟩ := id hR
  have HR := Aside0.mk hR
  have Hall := Aside0.mk hall
  clear h hR hall
  go_enter Tryz.func169, Tryz.ntmps169
  go_wp2_with (first | (go_at_call 179; refine (c_IndexFunc HR.out Hb.out).mono ?_; rintro e w1 ⟨hor, hq⟩; obtain rfl : e = .returned (.int .i64 (-1)) := (by rcases hor with ⟨q, _⟩ | ⟨k, hk, _, _, q⟩; exact q; exact absurd (List.all_eq_true.1 Hall.out n (List.mem_of_getElem? q)) (by simp)); have HQ := Aside0.mk hq; clear hor hq) | fail)
  go_ret
  refine ⟨_, rfl, ?_⟩
  obtain ⟨q, rfl⟩ := HQ.out
  unfold without
  rw [filter_all Hall.out]
  exact ⟨(Chg.refl _ _).drewN q, Hn.out.1, fun k hk => .inl hk, (lies_row HO.out).drewN q⟩
 ·have hx0 : 0 < xs.length := by
   rcases Nat.eq_zero_or_pos xs.length with h0 | h0
   ·rw [List.eq_nil_of_length_eq_zero h0] at hall; exact absurd rfl hall
   ·exact h0
  obtain ⟨g, cap, rfl, hg, cur, hcur⟩ := O_form h hx0
  have hcap : xs.length ≤ cap := by obtain ⟨_, _, e, hc, _⟩ := hR; cases e; exact hc
  have Hg := Aside0.mk hg
  have HR := Aside0.mk hR
  have Hall := Aside0.mk hall
  clear h hR hall hcur hg
  have c0 : (0 : Int) ≤ (cap : Int) := by omega
  go_enter Tryz.func169, Tryz.ntmps169
  go_upto_region 2 with (first | (go_at_call 179; refine (c_IndexFunc HR.out Hb.out).mono ?_; rintro e w1 ⟨hor, hq⟩; obtain ⟨k, hk, rfl, hk1, hk2⟩ : ∃ k : Nat, k < xs.length ∧ e = .returned (.int .i64 (k : Int)) ∧ (xs.take k).all (fun x => !(x == n)) = true ∧ xs[k]? = some n := (by rcases hor with ⟨_, q⟩ | q; exact absurd q Hall.out; exact q); have HQ := Aside0.mk hq; have HK := Aside0.mk (And.intro hk1 hk2); clear hor hq hk1 hk2) | fail)
  have hne : ((k : Int) == -1) = false := by simp
  go_wp2
  go_loopw [5, 6] (fun v5 v6 wr => ∃ i j : Nat, i < j ∧ j ≤ xs.length ∧ v5 = .int .i64 i ∧ v6 = .int .i64 j ∧ ∃ ys : List Int, Aside0 (ys.length = xs.length ∧ ys.take i = without (xs.take j) n ∧ ys.drop j = xs.drop j ∧ oInt.O 3 wr F (.slice (some ⟨g, 0, none⟩) xs.length cap) ys ∧ Chg F w wr)) (fun _ v6 _ => xs.length - (intOf v6).toNat)
  case atStart =>
   refine ⟨k, k + 1, by omega, by omega, rfl, by go_num, xs, ⟨rfl, ?_, rfl, ?_, ?_⟩⟩
   ·rw [take_snoc HK.out.2]; unfold without; rw [List.filter_append, filter_all HK.out.1]; simp
   ·obtain ⟨q, rfl⟩ := HQ.out; exact O_move HO.out (fun _ _ => rfl)
   ·obtain ⟨q, rfl⟩ := HQ.out; exact (Chg.refl _ _).drewN q
  case round =>
   obtain ⟨i, j, hij, hj, rfl, rfl, ys, hr⟩ := hrel
   have hyl := hr.out.1
   by_cases hlt : j < xs.length
   ·obtain ⟨x, hxj⟩ : ∃ x, xs[j]? = some x := ⟨_, List.getElem?_eq_getElem hlt⟩
    have hyj : ys[j]? = some x := by
     have h1 := congrArg (fun l => l[0]?) hr.out.2.2.1
     simpa [List.getElem?_drop, hxj] using h1
    obtain ⟨hyj1, hyj2⟩ := List.getElem?_eq_some_iff.1 hyj
    have cj := (O_int_cell hr.out.2.2.2.1 (i := j) (by omega)).1
    rw [hyj2] at cj
    have ci := O_int_cell hr.out.2.2.2.1 (i := i) (by omega)
    obtain ⟨ci1, ci2⟩ := ci
    have hbc : wr.cell? ⟨b, 0, none⟩ = some (.int .i64 n) := by
     have hlt := World.block_lt_of_cell? w _ Hb.out
     have := hr.out.2.2.2.2.block b hlt Hn.out.2
     rw [← Hb.out]; simp [World.cell?, this]
    have Hxj := Aside0.mk hxj
    have HB := Aside0.mk hbc
    clear hxj hyj hyj2 hbc
    have j0 : (0 : Int) ≤ (j : Int) := by omega
    by_cases hxy : x = n
    ·subst hxy
     have hT : (x == x) = true := by simp
     go_wp2_with (first | (go_at_call 170; refine (c_isn HB.out).mono ?_; rw [hT]; rintro e w1 ⟨rfl, hq⟩; obtain ⟨q, rfl⟩ := hq) | fail)
     go_roundw
     case rel =>
      obtain ⟨h1, h2, h3, h4, h5⟩ := hr.out
      refine ⟨i, j + 1, by omega, by omega, rfl, by go_num, ys, ⟨h1, ?_, ?_, O_move h4 (fun _ _ => rfl), h5.drewN q⟩⟩
      ·rw [h2, take_snoc Hxj.out]; simp [without]
      ·exact drop_succ_ h3
     case measure => simp [intOf]; omega
    ·have hxy' : (x == n) = false := by simpa using hxy
     go_wp2_with (first | (go_at_call 170; refine (c_isn HB.out).mono ?_; rw [hxy']; rintro e w1 ⟨rfl, hq⟩; obtain ⟨q, rfl⟩ := hq) | fail)
     go_roundw
     case rel =>
      obtain ⟨h1, h2, h3, h4, h5⟩ := hr.out
      have h6 : oInt.O 3 (wr.drewN q) F (.slice (some ⟨g, 0, none⟩) xs.length cap) ys := O_move h4 (fun _ _ => rfl)
      refine ⟨i + 1, j + 1, by omega, by omega, by go_num, by go_num, ys.set i x, ⟨by simp [h1], ?_, ?_, O_int_set h6 (by omega) x, (h5.drewN q).set (.inl Hg.out) _⟩⟩
      ·rw [List.take_succ_eq_append_getElem (by simp; omega), List.take_set_of_le (Nat.le_refl _), h2, List.getElem_set_self, take_snoc Hxj.out]
       simp [without, hxy']
      ·rw [List.drop_set_of_lt (by omega)]; exact drop_succ_ h3
     case measure => simp [intOf]; omega
   ·obtain rfl : j = xs.length := by omega
    obtain ⟨h1, h2, h3, h4, h5⟩ := hr.out
    have hcl := Go.Lib.run_clear_slice (P := Tryz.prog) wr 28 3 0 (.int .i64 0) Tryz.underlying28 (fun w => by kernel_rfl) rfl rfl g i (xs.length - i) (cap - i) (by omega)
     (fun q hq => by rw [(O_int_cell h4 (i := i + q) (by omega)).1]; rfl) (fun q hq => (O_int_cell h4 (i := i + q) (by omega)).2)
    have i0 : (0 : Int) ≤ (i : Int) := by omega
    have i1 : (i : Int) ≤ (xs.length : Int) := by omega
    have i2 : (xs.length : Int) ≤ (cap : Int) := by omega
    clear h1 h2 h3 h4 h5
    go_wp2
    go_ret
    obtain ⟨h1, h2, h3, h4, h5⟩ := hr.out
    rw [List.take_length] at h2
    refine ⟨_, rfl, chg_cells h5 Hg.out i (List.replicate (xs.length - i) (.int .i64 0)), Hn.out.1, fun k hk => .inl hk, lies_row ?_⟩
    have h6 := O_int_tail h4 (i := i) (List.replicate (xs.length - i) (.int .i64 0)) (by simp; omega)
    rw [h2] at h6
    exact h6
end MDel
namespace MWrite
open Go.RowKit RJ Go.Proofs.YtggmifnblcjdfaaGreatW.PrintWords Fp FpStep MInt MKinds MRead MMake MPut MOk MVal Go.Proofs.YtggmifnblcjdfaaGreat.Sep SepStep MCopy MCopyS MDel MReadS
attribute [local go_sem ↓] Go.wp_at_zero Go.wp_at_succ
theorem one {w : World} {g : Nat} {a : Value} {t : TypeId} (h : w.heap[g]? = some (.cells #[a] t (0, 0))) : w.cell? ⟨g, 0, none⟩ = some a := (blk_cell h 0).trans rfl
theorem not_lt60 {k : Nat} (h : k ≤ 60) : Value.bool ((k : Int) == 60) = .bool (!decide (k < 60)) := by
 congr 1
 by_cases h1 : k = 60
 ·subst h1; rfl
 ·have h2 : k < 60 := by omega
  have h3 : ((k : Int) == 60) = false := by simp; omega
  rw [h3]; simp [h2]
theorem ge60 {k : Nat} : Value.bool (decide ((60 : Int) ≤ (k : Int))) = .bool (!decide (k < 60)) := by
 congr 1
 by_cases h1 : k < 60
 ·have : ¬ (60 : Int) ≤ (k : Int) := by omega
  simp [h1, this]
 ·have : (60 : Int) ≤ (k : Int) := by omega
  simp [h1, this]
theorem memB_cache {m : MemV} (h : memB m = true) : m.cache.length ≤ 60 := by simp [memB] at h; omega
set_option maxHeartbeats 4000000 in
set_option maxRecDepth 100000 in
theorem c_implWriteSec {w : World} {v : Value} {m : MemV} {n : Int} {vs : Value} {xs : List Int} (h : MemR w v m) (hs : Small m) (hx : RK kInt w vs xs) (hxl : xs.length ≤ 16777216) :
  Calls Tryz.prog 147 #[v, .int .i64 n, vs] w fun e w' => ∃ u F, e = .returned (.tuple #[u, .bool (canWrite m n xs)]) ∧ New w w' (me F u (writeV m n xs)) := by
 have H := Aside0.mk h
 obtain ⟨s, c, b, rfl, r1, r2, r3⟩ := h
 obtain ⟨A1, c1, rfl, _⟩ := r1
 obtain ⟨A2, c2, rfl, _⟩ := r2
 obtain ⟨A3, c3, rfl, _⟩ := r3
 obtain ⟨AX, cX, rfl, _⟩ := id hx
 have HX := Aside0.mk hx
 have hb1 := hs.1
 have hb2 := hs.2.2.1
 have HS := Aside0.mk hs
 clear hs hx
 generalize hmf : m.failed = mf at H
 have Hmf := Aside0.mk hmf
 clear hmf
 go_enter Tryz.func147, Tryz.ntmps147
 go_upto_region 2 with (first
  | (go_at_call 125; refine (c_copyMem (MemR_below H.out (below_alloc (below_alloc (below_alloc (Below.refl _ _) _) _) _)) HS.out).mono ?_; rintro e w1 ⟨u, F, rfl, hn⟩; obtain ⟨B1, d1, B2, d2, B3, d3, F1, F2, F3, rfl, h1⟩ := (((((Sep.start w []).alloc (g := w.heap.size) rfl #[.slice A1 m.secs.length c1, .slice A2 m.cache.length c2, .bool mf, .slice A3 m.bad.length c3] 89).alloc (g := w.heap.size + 1) (by simp) #[.int .i64 n] 3).alloc (g := w.heap.size + 1 + 1) (by simp) #[.slice none 0 0, .slice none 0 0, .bool false, .slice none 0 0] 89).new hn).ofMem; rw [Hmf.out]; have HS1 := Aside0.mk (h1.alloc (g := w1.heap.size) rfl #[.slice B1 m.secs.length d1, .slice B2 m.cache.length d2, .bool mf, .slice B3 m.bad.length d3] 89); clear hn h1)
  | fail)
 generalize hg : w1.heap.size = g at *
 generalize hw2 : w1.alloc (.cells #[.slice B1 m.secs.length d1, .slice B2 m.cache.length d2, .bool mf, .slice B3 m.bad.length d3] 89 (0, 0)) = w2 at *
 clear hg hw2
 obtain ⟨k1, k2, k3, k4⟩ := four (HS1.out.get 6 rfl)
 have kn := one (HS1.out.get 5 rfl)
 go_cut [34] (fun s34 wx => s34 = .bool (!canWrite m n xs) ∧ Aside0 (Sep w [] wx [bx g 89 #[.slice B1 m.secs.length d1, .slice B2 m.cache.length d2, .bool mf, .slice B3 m.bad.length d3], rw_ oSec 28 F1 (.slice B1 m.secs.length d1) m.secs, rw_ oWr 126 F2 (.slice B2 m.cache.length d2) (m.cache), rw_ oInt 3 F3 (.slice B3 m.bad.length d3) (m.bad), bx (w.heap.size + 1 + 1) 89 #[.slice none 0 0, .slice none 0 0, .bool false, .slice none 0 0], bx (w.heap.size + 1) 3 #[.int .i64 n], bx w.heap.size 89 #[.slice A1 m.secs.length c1, .slice A2 m.cache.length c2, .bool mf, .slice A3 m.bad.length c3]]))
 case first =>
  have hk := Hmf.out
  by_cases hA : memB m = true
  ·have h60 := memB_cache hA
   cases mf
   ·by_cases hC : inR n 0 ((m.secs.length : Int) - 1) = true
    ·by_cases hD : secB xs = true
     ·have hcan : canWrite m n xs = decide (m.cache.length < 60) := by simp [canWrite, hA, hk, hC, hD]
      have Hcan := Aside0.mk hcan
      clear hcan hk
      go_wp2_with (first
       | (go_at_call 81; refine (c_implMemOk (MemR_below H.out HS1.out.toBelow)).mono ?_; rintro e w3 ⟨rfl, hb⟩; have HS2 := Aside0.mk (HS1.out.below hb); clear hb k1 k2 k3 k4 kn; obtain ⟨k1, k2, k3, k4⟩ := four (HS2.out.get 6 rfl); have kn := one (HS2.out.get 5 rfl))
       | (go_at_call 127; refine (c_hasSec (MemR_below H.out HS2.out.toBelow)).mono ?_; rintro e w4 ⟨rfl, hb⟩; have HS3 := Aside0.mk (HS2.out.below hb); clear hb k1 k2 k3 k4 kn; obtain ⟨k1, k2, k3, k4⟩ := four (HS3.out.get 6 rfl); have kn := one (HS3.out.get 5 rfl))
       | (go_at_call 126; refine (c_implSecOk (HS3.out.rk HX.out)).mono ?_; rintro e w5 ⟨rfl, hb⟩; have HS4 := Aside0.mk (HS3.out.dr hb); clear hb k1 k2 k3 k4 kn; obtain ⟨k1, k2, k3, k4⟩ := four (HS4.out.get 6 rfl); have kn := one (HS4.out.get 5 rfl))
       | fail)
      go_meet
      exact ⟨by rw [Hcan.out, not_lt60 h60], HS4⟩
     ·simp only [Bool.not_eq_true] at hD
      have hcan : canWrite m n xs = false := by simp [canWrite, hA, hk, hC, hD]
      have Hcan := Aside0.mk hcan
      clear hcan hk
      go_wp2_with (first
       | (go_at_call 81; refine (c_implMemOk (MemR_below H.out HS1.out.toBelow)).mono ?_; rintro e w3 ⟨rfl, hb⟩; have HS2 := Aside0.mk (HS1.out.below hb); clear hb k1 k2 k3 k4 kn; obtain ⟨k1, k2, k3, k4⟩ := four (HS2.out.get 6 rfl); have kn := one (HS2.out.get 5 rfl))
       | (go_at_call 127; refine (c_hasSec (MemR_below H.out HS2.out.toBelow)).mono ?_; rintro e w4 ⟨rfl, hb⟩; have HS3 := Aside0.mk (HS2.out.below hb); clear hb k1 k2 k3 k4 kn; obtain ⟨k1, k2, k3, k4⟩ := four (HS3.out.get 6 rfl); have kn := one (HS3.out.get 5 rfl))
       | (go_at_call 126; refine (c_implSecOk (HS3.out.rk HX.out)).mono ?_; rintro e w5 ⟨rfl, hb⟩; have HS4 := Aside0.mk (HS3.out.dr hb); clear hb k1 k2 k3 k4 kn; obtain ⟨k1, k2, k3, k4⟩ := four (HS4.out.get 6 rfl); have kn := one (HS4.out.get 5 rfl))
       | fail)
      go_meet
      exact ⟨by rw [Hcan.out]; rfl, HS4⟩
    ·simp only [Bool.not_eq_true] at hC
     have hcan : canWrite m n xs = false := by simp [canWrite, hA, hk, hC]
     have Hcan := Aside0.mk hcan
     clear hcan hk
     go_wp2_with (first
      | (go_at_call 81; refine (c_implMemOk (MemR_below H.out HS1.out.toBelow)).mono ?_; rintro e w3 ⟨rfl, hb⟩; have HS2 := Aside0.mk (HS1.out.below hb); clear hb k1 k2 k3 k4 kn; obtain ⟨k1, k2, k3, k4⟩ := four (HS2.out.get 6 rfl); have kn := one (HS2.out.get 5 rfl))
      | (go_at_call 127; refine (c_hasSec (MemR_below H.out HS2.out.toBelow)).mono ?_; rintro e w4 ⟨rfl, hb⟩; have HS3 := Aside0.mk (HS2.out.below hb); clear hb k1 k2 k3 k4 kn; obtain ⟨k1, k2, k3, k4⟩ := four (HS3.out.get 6 rfl); have kn := one (HS3.out.get 5 rfl))
      | fail)
     go_meet
     exact ⟨by rw [Hcan.out]; rfl, HS3⟩
   ·have hcan : canWrite m n xs = false := by simp [canWrite, hk]
    have Hcan := Aside0.mk hcan
    clear hcan hk
    go_wp2_with (first
     | (go_at_call 81; refine (c_implMemOk (MemR_below H.out HS1.out.toBelow)).mono ?_; rintro e w3 ⟨rfl, hb⟩; have HS2 := Aside0.mk (HS1.out.below hb); clear hb k1 k2 k3 k4 kn; obtain ⟨k1, k2, k3, k4⟩ := four (HS2.out.get 6 rfl); have kn := one (HS2.out.get 5 rfl))
     | fail)
    go_meet
    exact ⟨by rw [Hcan.out]; rfl, HS2⟩
  ·simp only [Bool.not_eq_true] at hA
   have hcan : canWrite m n xs = false := by simp [canWrite, hA]
   have Hcan := Aside0.mk hcan
   clear hcan hk
   go_wp2_with (first
    | (go_at_call 81; refine (c_implMemOk (MemR_below H.out HS1.out.toBelow)).mono ?_; rintro e w3 ⟨rfl, hb⟩; have HS2 := Aside0.mk (HS1.out.below hb); clear hb k1 k2 k3 k4 kn; obtain ⟨k1, k2, k3, k4⟩ := four (HS2.out.get 6 rfl); have kn := one (HS2.out.get 5 rfl))
    | fail)
   go_meet
   exact ⟨by rw [Hcan.out]; rfl, HS2⟩
 case rest =>
  obtain ⟨rfl, HB⟩ := hcut
  clear k1 k2 k3 k4 kn HS1
  obtain ⟨k1, k2, k3, k4⟩ := four (HB.out.get 0 rfl)
  obtain ⟨z1, z2, z3, z4⟩ := four (HB.out.get 4 rfl)
  have fz := blk_frozen (HB.out.get 4 rfl)
  by_cases hcan : canWrite m n xs = true
  ·have Hcan := Aside0.mk hcan
   rw [hcan]
   have h60 : m.cache.length < 60 := by simp [canWrite] at hcan; omega
   clear hcan z1 z2 z3 z4 fz k1 k3 k4
   have kn := one (HB.out.get 5 rfl)
   go_wp2
   refine wp_region_seq (fun w' => w'.cell? ⟨g, 1, none⟩ = some (.slice B2 m.cache.length d2) ∧ w'.cell? ⟨w.heap.size + 1, 0, none⟩ = some (.int .i64 n)) [9] [(0, true), (1, true), (2, true), (3, true), (4, false), (5, true), (6, false), (7, false), (8, true), (9, false)] (by kernel_rfl) (by kernel_rfl) ?_
   have hS : (fun w' : World => w'.cell? ⟨g, 1, none⟩ = some (.slice B2 m.cache.length d2) ∧ w'.cell? ⟨w.heap.size + 1, 0, none⟩ = some (.int .i64 n)) wc.drew := ⟨k2, kn⟩
   iterate 4 (refine seq_take hS rfl (fun _ _ _ h => h) (by rfl) (fun w_ hSw => by (try dsimp only at hSw); go_simp; first | done | with_reducible rfl) ?_; (try simp only [Act.put, qqP]))
   refine seq_step rfl (fun K hK => ?_)
   go_simp
   go_at_call 75; refine (c_copyInts (HB.out.drew.rk HX.out) hxl).mono ?_; rintro e w3 ⟨u1, K_, rfl, hu, hG, hb⟩
   have HS1 := Aside0.mk (HB.out.drew.new (new_row hu hG hb)); obtain ⟨A5, c5, rfl, hzz⟩ := O_RK hu; have HU := Aside0.mk hu; clear hzz hu hG hb k2 kn hS
   have k2 := (four (HS1.out.get 1 rfl)).2.1
   have kn := one (HS1.out.get 6 rfl)
   have hS : (fun w' : World => w'.cell? ⟨g, 1, none⟩ = some (.slice B2 m.cache.length d2) ∧ w'.cell? ⟨w.heap.size + 1, 0, none⟩ = some (.int .i64 n)) w3 := ⟨k2, kn⟩
   refine hK.out _ _ ⟨fun _ => hS, ?_⟩; clear hK K; (try simp only [Act.put, qqP])
   iterate 1 (refine seq_take hS rfl (fun _ _ _ h => h) (by rfl) (fun w_ hSw => by (try dsimp only at hSw); go_simp; first | done | with_reducible rfl) ?_; (try simp only [Act.put, qqP]))
   refine seq_step rfl (fun K hK => ?_)
   go_simp
   refine hK.out _ _ ⟨fun _ => ⟨cell_alloc k2 _, cell_alloc kn _⟩, ?_⟩; clear hK K; (try simp only [Act.put, qqP])
   refine seq_step rfl (fun K hK => ?_)
   refine step_app (d := oWr) (y := (n, xs)) (HS1.out.sel [3, 0, 1, 2, 4, 5, 6, 7] (by decide) (by simp)) 0 rfl _ _ 87 (.agg #[.int .i64 0, .slice none 0 0]) 32 (by rfl) Tryz.underlying87 (by kernel_rfl) rfl (by decide) (by decide) [.int .i64 n, .slice A5 xs.length c5] ⟨[], K_, [.int .i64 n], [.slice A5 xs.length c5], rfl, rfl, ⟨rfl, rfl⟩, _, rfl, HU.out⟩ (by rfl) (by rfl) (by rfl) (n := m.cache.length) rfl (by omega) ?_
   intro g2 cap2 w4 F4 h2
   have HS2 := Aside0.mk h2
   clear k2 kn hS
   have k2 := (four (h2.get 1 rfl)).2.1
   have kn := one (h2.get 5 rfl)
   have fz := blk_frozen (h2.get 1 rfl)
   clear h2
   have hS : (fun w' : World => w'.cell? ⟨g, 1, none⟩ = some (.slice B2 m.cache.length d2) ∧ w'.cell? ⟨w.heap.size + 1, 0, none⟩ = some (.int .i64 n)) w4 := ⟨k2, kn⟩
   refine hK.out _ _ ⟨fun _ => hS, ?_⟩; clear hK K; (try simp only [Act.put, qqP])
   iterate 1 (refine seq_take hS rfl (fun _ _ _ h => h) (by rfl) (fun w_ hSw => by (try dsimp only at hSw); go_simp; first | done | with_reducible rfl) ?_; (try simp only [Act.put, qqP]))
   clear hS
   refine seq_step rfl (fun K hK => ?_)
   go_simp
   refine hK.out _ _ ⟨(fun h => (by cases h)), ?_⟩; clear hK K; (try simp only [Act.put, qqP])
   refine seq_done ?_
   have hB := HS2.out.setb 1 rfl 1 (.slice (some ⟨g2, 0, none⟩) (m.cache.length + 1) cap2) rfl
   generalize hw5 : w4.setCell ⟨g, 1, none⟩ (.slice (some ⟨g2, 0, none⟩) (m.cache.length + 1) cap2) = w5 at *
   simp only [qqN] at hB
   have HS3 := Aside0.mk hB
   clear hB k2 kn fz hw5
   have k4 := (four (HS3.out.get 1 rfl)).2.2.2
   go_wp2_with (first
    | (go_at_call 169; refine (c_DeleteFunc (HS3.out.get 3 rfl) (HS3.out.fnd 3 rfl) (one (HS3.out.get 5 rfl)) (HS3.out.apart 5 3 rfl rfl (by decide) _ (by simp [bx]))).mono ?_; rintro e w6 ⟨u, rfl, hu⟩; obtain ⟨B4, d4, rfl, hzz⟩ := O_RK (show oInt.O 3 w6 F3 u (without m.bad n) from hu.lies.now); have h7 := HS3.out.upd 3 rfl hu; simp only [qqN] at h7; have HS4 := Aside0.mk h7; clear h7; clear hzz hu k4; obtain ⟨k1, k2, k3, k4⟩ := four (HS4.out.get 1 rfl); have fk := blk_frozen (HS4.out.get 1 rfl); obtain ⟨z1, z2, z3, z4⟩ := four (HS4.out.get 4 rfl); have fz := blk_frozen (HS4.out.get 4 rfl); have hgr : g ≠ w.heap.size + 1 + 1 := HS4.out.neq 1 4 rfl rfl (by decide); have hrg : w.heap.size + 1 + 1 ≠ g := Ne.symm hgr)
    | fail)
   have HE : Sep w [] _ _ := ((((HS4.out.setb 1 rfl 3 (.slice B4 (without m.bad n).length d4) rfl).setb 4 rfl 0 (.slice B1 m.secs.length d1) rfl).setb 4 rfl 1 (.slice (some ⟨g2, 0, none⟩) (m.cache.length + 1) cap2) rfl).setb 4 rfl 2 (.bool mf) rfl).setb 4 rfl 3 (.slice B4 (without m.bad n).length d4) rfl
   refine bodyPost_ret (results_ct rfl _ _ (w.heap.size + 1 + 1) 89 #[.slice B1 m.secs.length d1, .slice (some ⟨g2, 0, none⟩) (m.cache.length + 1) cap2, .bool mf, .slice B4 (without m.bad n).length d4] (0, 0) _ rfl (HE.get 4 rfl) Tryz.underlying89 rfl (by kernel_rfl)) rfl ?_
   have h9 := (HE.sel [2, 0, 3] (by decide) (by simp)).toMem (m := ⟨m.secs, m.cache ++ [(n, xs)], m.failed, without m.bad n⟩)
   refine ⟨_, F1 ++ (F4 ++ F3), ret2 Hcan.out.symm, ?_⟩
   unfold writeV
   rw [Hcan.out, if_pos rfl]
   rw [Hmf.out] at h9 ⊢
   exact h9.toNew 0 rfl
  ·simp only [Bool.not_eq_true] at hcan
   have Hcan := Aside0.mk hcan
   rw [hcan]
   clear hcan
   go_wp2
   have HE : Sep w [] _ _ := (((HB.out.setb 4 rfl 0 (.slice B1 m.secs.length d1) rfl).setb 4 rfl 1 (.slice B2 m.cache.length d2) rfl).setb 4 rfl 2 (.bool mf) rfl).setb 4 rfl 3 (.slice B3 m.bad.length d3) rfl
   refine bodyPost_ret (results_ct rfl _ _ (w.heap.size + 1 + 1) 89 #[.slice B1 m.secs.length d1, .slice B2 m.cache.length d2, .bool mf, .slice B3 m.bad.length d3] (0, 0) _ rfl (HE.get 4 rfl) Tryz.underlying89 rfl (by kernel_rfl)) rfl ?_
   have h9 := (HE.sel [1, 2, 3] (by decide) (by simp)).toMem (m := m)
   rw [Hmf.out] at h9
   refine ⟨_, F1 ++ (F2 ++ F3), ret2 Hcan.out.symm, ?_⟩
   unfold writeV
   rw [Hcan.out]
   exact h9.toNew 0 rfl
set_option maxHeartbeats 4000000 in
set_option maxRecDepth 100000 in
theorem c_specWriteSec {w : World} {v : Value} {m : MemV} {n : Int} {vs : Value} {xs : List Int} (h : MemR w v m) (hs : Small m) (hx : RK kInt w vs xs) (hxl : xs.length ≤ 16777216) :
  Calls Tryz.prog 149 #[v, .int .i64 n, vs] w fun e w' => ∃ u F, e = .returned (.tuple #[u, .bool (canWrite m n xs)]) ∧ New w w' (me F u (writeV m n xs)) := by
 have H := Aside0.mk h
 obtain ⟨s, c, b, rfl, r1, r2, r3⟩ := h
 obtain ⟨A1, c1, rfl, _⟩ := r1
 obtain ⟨A2, c2, rfl, _⟩ := r2
 obtain ⟨A3, c3, rfl, _⟩ := r3
 obtain ⟨AX, cX, rfl, _⟩ := id hx
 have HX := Aside0.mk hx
 have hb1 := hs.1
 have hb2 := hs.2.2.1
 have HS := Aside0.mk hs
 clear hs hx
 generalize hmf : m.failed = mf at H
 have Hmf := Aside0.mk hmf
 clear hmf
 go_enter Tryz.func149, Tryz.ntmps149
 go_upto_region 2 with (first
  | (go_at_call 68; refine (c_l2Copy (MemR_below H.out (below_alloc (below_alloc (Below.refl _ _) _) _)) HS.out).mono ?_; rintro e w1 ⟨u, F, rfl, hn⟩; obtain ⟨B1, d1, B2, d2, B3, d3, F1, F2, F3, rfl, h1⟩ := ((((Sep.start w []).alloc (g := w.heap.size) rfl #[.slice A1 m.secs.length c1, .slice A2 m.cache.length c2, .bool mf, .slice A3 m.bad.length c3] 89).alloc (g := w.heap.size + 1) (by simp) #[.slice none 0 0, .slice none 0 0, .bool false, .slice none 0 0] 89).new hn).ofMem; rw [Hmf.out]; have HS1 := Aside0.mk (h1.alloc (g := w1.heap.size) rfl #[.slice B1 m.secs.length d1, .slice B2 m.cache.length d2, .bool mf, .slice B3 m.bad.length d3] 89); clear hn h1)
  | fail)
 generalize hg : w1.heap.size = g at *
 generalize hw2 : w1.alloc (.cells #[.slice B1 m.secs.length d1, .slice B2 m.cache.length d2, .bool mf, .slice B3 m.bad.length d3] 89 (0, 0)) = w2 at *
 clear hg hw2
 obtain ⟨k1, k2, k3, k4⟩ := four (HS1.out.get 5 rfl)
 go_cut [37] (fun s37 wx => s37 = .bool (!canWrite m n xs) ∧ Aside0 (Sep w [] wx [bx g 89 #[.slice B1 m.secs.length d1, .slice B2 m.cache.length d2, .bool mf, .slice B3 m.bad.length d3], rw_ oSec 28 F1 (.slice B1 m.secs.length d1) m.secs, rw_ oWr 126 F2 (.slice B2 m.cache.length d2) (m.cache), rw_ oInt 3 F3 (.slice B3 m.bad.length d3) (m.bad), bx (w.heap.size + 1) 89 #[.slice none 0 0, .slice none 0 0, .bool false, .slice none 0 0], bx w.heap.size 89 #[.slice A1 m.secs.length c1, .slice A2 m.cache.length c2, .bool mf, .slice A3 m.bad.length c3]]))
 case first =>
  have hk := Hmf.out
  by_cases hA : memB m = true
  ·have h60 := memB_cache hA
   cases mf
   ·by_cases hC : inR n 0 ((m.secs.length : Int) - 1) = true
    ·by_cases hD : secB xs = true
     ·have hcan : canWrite m n xs = decide (m.cache.length < 60) := by simp [canWrite, hA, hk, hC, hD]
      have Hcan := Aside0.mk hcan
      clear hcan hk
      go_wp2_with (first
       | (go_at_call 145; refine (c_specMemOk (MemR_below H.out HS1.out.toBelow)).mono ?_; rintro e w3 ⟨rfl, hb⟩; have HS2 := Aside0.mk (HS1.out.below hb); clear hb k1 k2 k3 k4; obtain ⟨k1, k2, k3, k4⟩ := four (HS2.out.get 5 rfl))
       | (go_at_call 70; refine (c_l1In _ _ _ _).mono ?_; rintro e w4 ⟨rfl, hb⟩; have HS3 := Aside0.mk (HS2.out.dr hb); clear hb k1 k2 k3 k4; obtain ⟨k1, k2, k3, k4⟩ := four (HS3.out.get 5 rfl))
       | (go_at_call 168; refine (c_specSecOk (HS3.out.rk HX.out)).mono ?_; rintro e w5 ⟨rfl, hb⟩; have HS4 := Aside0.mk (HS3.out.dr hb); clear hb k1 k2 k3 k4; obtain ⟨k1, k2, k3, k4⟩ := four (HS4.out.get 5 rfl))
       | fail)
      go_meet
      exact ⟨by rw [Hcan.out, ge60], HS4⟩
     ·simp only [Bool.not_eq_true] at hD
      have hcan : canWrite m n xs = false := by simp [canWrite, hA, hk, hC, hD]
      have Hcan := Aside0.mk hcan
      clear hcan hk
      go_wp2_with (first
       | (go_at_call 145; refine (c_specMemOk (MemR_below H.out HS1.out.toBelow)).mono ?_; rintro e w3 ⟨rfl, hb⟩; have HS2 := Aside0.mk (HS1.out.below hb); clear hb k1 k2 k3 k4; obtain ⟨k1, k2, k3, k4⟩ := four (HS2.out.get 5 rfl))
       | (go_at_call 70; refine (c_l1In _ _ _ _).mono ?_; rintro e w4 ⟨rfl, hb⟩; have HS3 := Aside0.mk (HS2.out.dr hb); clear hb k1 k2 k3 k4; obtain ⟨k1, k2, k3, k4⟩ := four (HS3.out.get 5 rfl))
       | (go_at_call 168; refine (c_specSecOk (HS3.out.rk HX.out)).mono ?_; rintro e w5 ⟨rfl, hb⟩; have HS4 := Aside0.mk (HS3.out.dr hb); clear hb k1 k2 k3 k4; obtain ⟨k1, k2, k3, k4⟩ := four (HS4.out.get 5 rfl))
       | fail)
      go_meet
      exact ⟨by rw [Hcan.out]; rfl, HS4⟩
    ·simp only [Bool.not_eq_true] at hC
     have hcan : canWrite m n xs = false := by simp [canWrite, hA, hk, hC]
     have Hcan := Aside0.mk hcan
     clear hcan hk
     go_wp2_with (first
      | (go_at_call 145; refine (c_specMemOk (MemR_below H.out HS1.out.toBelow)).mono ?_; rintro e w3 ⟨rfl, hb⟩; have HS2 := Aside0.mk (HS1.out.below hb); clear hb k1 k2 k3 k4; obtain ⟨k1, k2, k3, k4⟩ := four (HS2.out.get 5 rfl))
      | (go_at_call 70; refine (c_l1In _ _ _ _).mono ?_; rintro e w4 ⟨rfl, hb⟩; have HS3 := Aside0.mk (HS2.out.dr hb); clear hb k1 k2 k3 k4; obtain ⟨k1, k2, k3, k4⟩ := four (HS3.out.get 5 rfl))
      | fail)
     go_meet
     exact ⟨by rw [Hcan.out]; rfl, HS3⟩
   ·have hcan : canWrite m n xs = false := by simp [canWrite, hk]
    have Hcan := Aside0.mk hcan
    clear hcan hk
    go_wp2_with (first
     | (go_at_call 145; refine (c_specMemOk (MemR_below H.out HS1.out.toBelow)).mono ?_; rintro e w3 ⟨rfl, hb⟩; have HS2 := Aside0.mk (HS1.out.below hb); clear hb k1 k2 k3 k4; obtain ⟨k1, k2, k3, k4⟩ := four (HS2.out.get 5 rfl))
     | fail)
    go_meet
    exact ⟨by rw [Hcan.out]; rfl, HS2⟩
  ·simp only [Bool.not_eq_true] at hA
   have hcan : canWrite m n xs = false := by simp [canWrite, hA]
   have Hcan := Aside0.mk hcan
   clear hcan hk
   go_wp2_with (first
    | (go_at_call 145; refine (c_specMemOk (MemR_below H.out HS1.out.toBelow)).mono ?_; rintro e w3 ⟨rfl, hb⟩; have HS2 := Aside0.mk (HS1.out.below hb); clear hb k1 k2 k3 k4; obtain ⟨k1, k2, k3, k4⟩ := four (HS2.out.get 5 rfl))
    | fail)
   go_meet
   exact ⟨by rw [Hcan.out]; rfl, HS2⟩
 case rest =>
  obtain ⟨rfl, HB⟩ := hcut
  clear k1 k2 k3 k4 HS1
  obtain ⟨k1, k2, k3, k4⟩ := four (HB.out.get 0 rfl)
  obtain ⟨z1, z2, z3, z4⟩ := four (HB.out.get 4 rfl)
  have fz := blk_frozen (HB.out.get 4 rfl)
  by_cases hcan : canWrite m n xs = true
  ·have Hcan := Aside0.mk hcan
   rw [hcan]
   have h60 : m.cache.length < 60 := by simp [canWrite] at hcan; omega
   clear hcan z1 z2 z3 z4 fz k1 k3 k4
   go_wp2
   refine wp_region_seq (fun w' => w'.cell? ⟨g, 1, none⟩ = some (.slice B2 m.cache.length d2)) [10] [(0, true), (1, true), (2, true), (4, true), (3, false), (5, false), (6, true), (7, false), (8, false), (9, true), (10, false)] (by kernel_rfl) (by kernel_rfl) ?_
   have hS : (fun w' : World => w'.cell? ⟨g, 1, none⟩ = some (.slice B2 m.cache.length d2)) wc.drew := k2
   iterate 4 (refine seq_take hS rfl (fun _ _ _ h => h) (by rfl) (fun w_ hSw => by (try dsimp only at hSw); go_simp; first | done | with_reducible rfl) ?_; (try simp only [Act.put, qqP]))
   refine seq_step rfl (fun K hK => ?_)
   go_simp
   refine hK.out _ _ ⟨fun _ => cell_alloc k2 _, ?_⟩; clear hK K; (try simp only [Act.put, qqP])
   refine seq_step rfl (fun K hK => ?_)
   refine step_copy .i64 (HB.out.drew.lit (g := wc.heap.size) rfl oInt 3) (by rfl) _ _ 28 8 (by rfl) Tryz.underlying28 (by kernel_rfl) (by decide) _ xs (by rfl) (by rfl) ((HB.out.drew.lit (g := wc.heap.size) rfl oInt 3).rk HX.out) (by omega) ?_
   intro A5 c5 w3 K_ h1
   have HS1 := Aside0.mk h1
   clear k2 hS h1
   have k2 := (four (HS1.out.get 1 rfl)).2.1
   have hS : (fun w' : World => w'.cell? ⟨g, 1, none⟩ = some (.slice B2 m.cache.length d2)) w3 := k2
   refine hK.out _ _ ⟨fun _ => hS, ?_⟩; clear hK K; (try simp only [Act.put, qqP])
   iterate 1 (refine seq_take hS rfl (fun _ _ _ h => h) (by rfl) (fun w_ hSw => by (try dsimp only at hSw); go_simp; first | done | with_reducible rfl) ?_; (try simp only [Act.put, qqP]))
   refine seq_step rfl (fun K hK => ?_)
   go_simp
   refine hK.out _ _ ⟨fun _ => cell_alloc k2 _, ?_⟩; clear hK K; (try simp only [Act.put, qqP])
   refine seq_step rfl (fun K hK => ?_)
   refine step_app (d := oWr) (y := (n, xs)) (HS1.out.sel [3, 0, 1, 2, 4, 5, 6] (by decide) (by simp)) 0 rfl _ _ 87 (.agg #[.int .i64 0, .slice none 0 0]) 32 (by rfl) Tryz.underlying87 (by kernel_rfl) rfl (by decide) (by decide) [.int .i64 n, .slice A5 xs.length c5] ⟨[], K_, [.int .i64 n], [.slice A5 xs.length c5], rfl, rfl, ⟨rfl, rfl⟩, _, rfl, HS1.out.get 0 rfl⟩ (by rfl) (by rfl) (by rfl) (n := m.cache.length) rfl (by omega) ?_
   intro g2 cap2 w4 F4 h2
   have HS2 := Aside0.mk h2
   clear k2 hS
   have k2 := (four (h2.get 1 rfl)).2.1
   have fz := blk_frozen (h2.get 1 rfl)
   clear h2
   have hS : (fun w' : World => w'.cell? ⟨g, 1, none⟩ = some (.slice B2 m.cache.length d2)) w4 := k2
   refine hK.out _ _ ⟨fun _ => hS, ?_⟩; clear hK K; (try simp only [Act.put, qqP])
   iterate 1 (refine seq_take hS rfl (fun _ _ _ h => h) (by rfl) (fun w_ hSw => by (try dsimp only at hSw); go_simp; first | done | with_reducible rfl) ?_; (try simp only [Act.put, qqP]))
   clear hS
   refine seq_step rfl (fun K hK => ?_)
   go_simp
   refine hK.out _ _ ⟨(fun h => (by cases h)), ?_⟩; clear hK K; (try simp only [Act.put, qqP])
   refine seq_done ?_
   have hB := HS2.out.setb 1 rfl 1 (.slice (some ⟨g2, 0, none⟩) (m.cache.length + 1) cap2) rfl
   generalize hw5 : w4.setCell ⟨g, 1, none⟩ (.slice (some ⟨g2, 0, none⟩) (m.cache.length + 1) cap2) = w5 at *
   simp only [qqN] at hB
   have HS3 := Aside0.mk hB
   clear hB k2 fz hw5
   have k4 := (four (HS3.out.get 5 rfl)).2.2.2
   have H3 := Aside0.mk (show RK kInt w (.slice A3 m.bad.length c3) m.bad by obtain ⟨s_, c_, b_, e_, _, _, r_⟩ := H.out; cases e_; exact r_)
   go_wp2_with (first
    | (go_at_call 171; refine (c_l2Without (HS3.out.rk H3.out) HS.out.2.2.2.2).mono ?_; rintro e w6 ⟨u, F6, rfl, hu, hF, hb⟩; obtain ⟨B4, d4, rfl, hzz⟩ := O_RK hu; have h7 := HS3.out.new (new_row hu hF hb); have HS4 := Aside0.mk h7; clear h7 hzz hu hF hb k4; obtain ⟨k1, k2, k3, k4⟩ := four (HS4.out.get 2 rfl); have fk := blk_frozen (HS4.out.get 2 rfl); obtain ⟨z1, z2, z3, z4⟩ := four (HS4.out.get 5 rfl); have fz := blk_frozen (HS4.out.get 5 rfl); have hgr : g ≠ w.heap.size + 1 := HS4.out.neq 2 5 rfl rfl (by decide); have hrg : w.heap.size + 1 ≠ g := Ne.symm hgr)
    | fail)
   have HE : Sep w [] _ _ := ((((HS4.out.setb 2 rfl 3 (.slice B4 (without m.bad n).length d4) rfl).setb 5 rfl 0 (.slice B1 m.secs.length d1) rfl).setb 5 rfl 1 (.slice (some ⟨g2, 0, none⟩) (m.cache.length + 1) cap2) rfl).setb 5 rfl 2 (.bool mf) rfl).setb 5 rfl 3 (.slice B4 (without m.bad n).length d4) rfl
   refine bodyPost_ret (results_ct rfl _ _ (w.heap.size + 1) 89 #[.slice B1 m.secs.length d1, .slice (some ⟨g2, 0, none⟩) (m.cache.length + 1) cap2, .bool mf, .slice B4 (without m.bad n).length d4] (0, 0) _ rfl (HE.get 5 rfl) Tryz.underlying89 rfl (by kernel_rfl)) rfl ?_
   have h9 := (HE.sel [3, 1, 0] (by decide) (by simp)).toMem (m := ⟨m.secs, m.cache ++ [(n, xs)], m.failed, without m.bad n⟩)
   refine ⟨_, F1 ++ (F4 ++ F6), ret2 Hcan.out.symm, ?_⟩
   unfold writeV
   rw [Hcan.out, if_pos rfl]
   rw [Hmf.out] at h9 ⊢
   exact h9.toNew 0 rfl
  ·simp only [Bool.not_eq_true] at hcan
   have Hcan := Aside0.mk hcan
   rw [hcan]
   clear hcan
   go_wp2
   have HE : Sep w [] _ _ := (((HB.out.setb 4 rfl 0 (.slice B1 m.secs.length d1) rfl).setb 4 rfl 1 (.slice B2 m.cache.length d2) rfl).setb 4 rfl 2 (.bool mf) rfl).setb 4 rfl 3 (.slice B3 m.bad.length d3) rfl
   refine bodyPost_ret (results_ct rfl _ _ (w.heap.size + 1) 89 #[.slice B1 m.secs.length d1, .slice B2 m.cache.length d2, .bool mf, .slice B3 m.bad.length d3] (0, 0) _ rfl (HE.get 4 rfl) Tryz.underlying89 rfl (by kernel_rfl)) rfl ?_
   have h9 := (HE.sel [1, 2, 3] (by decide) (by simp)).toMem (m := m)
   rw [Hmf.out] at h9
   refine ⟨_, F1 ++ (F2 ++ F3), ret2 Hcan.out.symm, ?_⟩
   unfold writeV
   rw [Hcan.out]
   exact h9.toNew 0 rfl
end MWrite
namespace APut
open Go.RowKit RJ RP Go.Proofs.YtggmifnblcjdfaaGreatW.PrintWords Fp FpStep MInt MKinds MRead MMake MPut MHeld MOk MSuper Go.Proofs.YtggmifnblcjdfaaGreat.Sep SepStep AKinds AMake AEnt ALaw AArr AOk MVal AHole AMark AOpV MWrite AOp ASyncF AMarkV
set_option maxHeartbeats 8000000 in
set_option maxRecDepth 100000 in
theorem c_specPut {w0 w : World} {S : List Nat} {L : List Res} {g hh n c i xc : Nat} {k : Int} {XA : Option Addr} {F G : List Nat} {vd : Value} {a : ArrV} {xs : List Int} (hs : Sep w0 S w (bx g 34 (arrC a (.slice (some ⟨hh, 0, none⟩) n c) vd) :: rw_ oMem 89 F (.slice (some ⟨hh, 0, none⟩) n c) a.mems :: rw_ oInt 3 G (.slice XA xs.length xc) xs :: L)) (hn : n = a.mems.length) (hi : i < a.mems.length) (hfu : a.fuse ≤ 1000) (hsm : ∀ m ∈ a.mems, Small m) (hxl : xs.length ≤ 16777216) :
  Calls Tryz.prog 112 #[.pointer (some ⟨g, 0, none⟩), .int .i64 i, .int .i64 k, .slice XA xs.length xc] w fun e w' => ∃ F', e = .returned (.tuple #[]) ∧ Sep w0 S w' (bx g 34 (arrC (putV a i k xs) (.slice (some ⟨hh, 0, none⟩) n c) vd) :: rw_ oMem 89 F' (.slice (some ⟨hh, 0, none⟩) n c) (putV a i k xs).mems :: rw_ oInt 3 G (.slice XA xs.length xc) xs :: L) := by
 have HSM := Aside0.mk hsm
 have HFU := Aside0.mk hfu
 have HN := Aside0.mk hn
 have H0 := Aside0.mk hs
 have HXL := Aside0.mk hxl
 obtain ⟨k0, k1, k2, k3, k4, k5, k6, k7, k8, k9, k10, k11, k12⟩ := thirteen (hs.get 0 rfl)
 subst hn
 clear hs hsm hfu hxl
 obtain ⟨x, hx⟩ : ∃ x, a.mems[i]? = some x := ⟨_, List.getElem?_eq_getElem hi⟩
 obtain ⟨hz9, A1, c1, A2, c2, A3, c3, m0, m1, m2, m3, hM, hfr⟩ := mem_at (H0.out.get 1 rfl) hx
 clear hz9 hM hfr
 have HX := Aside0.mk hx
 have hxs := HSM.out x (List.mem_of_getElem? hx)
 have HXS := Aside0.mk hxs
 clear hxs hx
 have i0 : (0 : Int) ≤ (i : Int) := by omega
 have il : (i : Int) < (a.mems.length : Int) := by omega
 generalize hxf : x.failed = xf at *
 have HXF := Aside0.mk hxf
 clear hxf
 obtain ⟨ov, hov⟩ : ∃ ov, opV a = ov := ⟨_, rfl⟩
 have HOV := Aside0.mk hov
 have HOM := Aside0.mk (show ov.mems = a.mems by rw [← HOV.out]; exact opV_mems a)
 clear hov
 cases xf
 ·cases hob : opB a
  ·have HOB := Aside0.mk hob
   clear hob
   have HPV := Aside0.mk (show putV a i k xs = ov from (turnV_no HX.out HXF.out HOB.out).trans HOV.out)
   go_enter Tryz.func112, Tryz.ntmps112
   go_wp2_with (first
    | (go_at_call 107; refine (c_specOp H0.out HFU.out).mono ?_; rw [HOB.out, HOV.out]; rintro e w2 ⟨rfl, hs2⟩; have HS2 := Aside0.mk hs2; clear hs2 m0 m1 m2 m3 k0 k1 k2 k3 k4 k5 k6 k7 k8 k9 k10 k11 k12; obtain ⟨k0, k1, k2, k3, k4, k5, k6, k7, k8, k9, k10, k11, k12⟩ := thirteen (HS2.out.get 0 rfl))
    | fail)
   first | go_end0 | ((try simp only [Exit.inBlock, Exit.then]); refine bodyPost_ret (results_none rfl _ _ _) rfl ?_)
   rw [HPV.out]
   first | exact ⟨_, rfl, (by rw [HOM.out]; exact HS2.out)⟩ | exact ⟨rfl, _, (by rw [HOM.out]; exact HS2.out)⟩
  ·have HOB := Aside0.mk hob
   clear hob
   obtain ⟨y, hy⟩ : ∃ y, writeV x k xs = y := ⟨_, rfl⟩
   have HYV := Aside0.mk hy
   clear hy
   have HPV := Aside0.mk (show putV a i k xs = setM ov i y by rw [← HYV.out, ← HOV.out]; exact turnV_yes HX.out HXF.out HOB.out)
   go_enter Tryz.func112, Tryz.ntmps112
   go_upto_region 1 with (first
    | (go_at_call 107; refine (c_specOp H0.out HFU.out).mono ?_; rw [HOB.out, HOV.out]; rintro e w2 ⟨rfl, hs2⟩; have HS2 := Aside0.mk hs2; clear hs2 m0 m1 m2 m3 k0 k1 k2 k3 k4 k5 k6 k7 k8 k9 k10 k11 k12; obtain ⟨k0, k1, k2, k3, k4, k5, k6, k7, k8, k9, k10, k11, k12⟩ := thirteen (HS2.out.get 0 rfl))
    | fail)
   obtain ⟨hz9, A1, c1, A2, c2, A3, c3, m0, m1, m2, m3, hM, hfr⟩ := mem_at (HS2.out.get 1 rfl) (show a.mems[i]? = some x from HX.out)
   rw [HXF.out] at m2 hM
   have RM := Aside0.mk hM
   clear hz9 hM hfr
   go_upto_region 2 with (first
    | (go_at_call 149; refine (c_specWriteSec RM.out HXS.out (O_RK (show oInt.O 3 w2 G (.slice XA xs.length xc) xs from HS2.out.get 2 rfl)) HXL.out).mono ?_; rintro e w3 ⟨u3, F3, rfl, hn3⟩; have hs3 := HS2.out.new hn3; rw [HYV.out] at hs3; obtain ⟨E1, f1, E2, f2, E3, f3, rfl⟩ := me_form hs3; have HS3 := Aside0.mk hs3; clear hs3 hn3 m0 m1 m2 m3 k0 k1 k2 k3 k4 k5 k6 k7 k8 k9 k10 k11 k12)
    | fail)
   have hB := HS3.out.alloc (g := w3.heap.size) rfl #[.slice E1 y.secs.length f1, .slice E2 y.cache.length f2, .bool y.failed, .slice E3 y.bad.length f3] 89
   generalize hgg : w3.heap.size = g4 at *
   generalize hww : w3.alloc (.cells #[.slice E1 y.secs.length f1, .slice E2 y.cache.length f2, .bool y.failed, .slice E3 y.bad.length f3] 89 (0, 0)) = w4 at *
   have HS4 := Aside0.mk hB
   clear hB hgg hww HS3
   obtain ⟨k0, k1, k2, k3, k4, k5, k6, k7, k8, k9, k10, k11, k12⟩ := thirteen (HS4.out.get 2 rfl)
   obtain ⟨b0, b1, b2, b3⟩ := four (HS4.out.get 0 rfl)
   obtain ⟨hz9, B1, d1, B2, d2, B3, d3, m0, m1, m2, m3, hM9, hfr⟩ := mem_at (HS4.out.get 3 rfl) HX.out
   clear hz9 hM9
   have z0 := hfr 0
   rw [Nat.add_zero] at z0
   have z1 := hfr 1
   have z2 := hfr 2
   have z3 := hfr 3
   clear hfr
   have HALL : ∀ w' : World, Below w4.heap.size w4 w' → (w'.cell? ⟨g, 0, none⟩ = some (.int .i64 ov.id) ∧ w'.cell? ⟨g, 1, none⟩ = some (.int .i64 ov.gn) ∧ w'.cell? ⟨g, 2, none⟩ = some (.int .i64 ov.gs) ∧ w'.cell? ⟨g, 3, none⟩ = some (.slice (some ⟨hh, 0, none⟩) a.mems.length c) ∧ w'.cell? ⟨g, 4, none⟩ = some (.int .i64 ov.lost) ∧ w'.cell? ⟨g, 5, none⟩ = some (.int .i64 ov.built) ∧ w'.cell? ⟨g, 6, none⟩ = some (.int .i64 ov.seq) ∧ w'.cell? ⟨g, 7, none⟩ = some (.int .i64 ov.tail) ∧ w'.cell? ⟨g, 8, none⟩ = some (.int .i64 ov.gen) ∧ w'.cell? ⟨g, 9, none⟩ = some (vd) ∧ w'.cell? ⟨g, 10, none⟩ = some (.int .i64 ov.fuse) ∧ w'.cell? ⟨g, 11, none⟩ = some (.bool ov.down) ∧ w'.cell? ⟨g, 12, none⟩ = some (.bool ov.broken) ∧ w'.cell? ⟨g4, 0, none⟩ = some (.slice E1 y.secs.length f1) ∧ w'.cell? ⟨g4, 1, none⟩ = some (.slice E2 y.cache.length f2) ∧ w'.cell? ⟨g4, 2, none⟩ = some (.bool y.failed) ∧ w'.cell? ⟨g4, 3, none⟩ = some (.slice E3 y.bad.length f3)) := fun w' hb => ⟨(hb.cell (lt_of_cell k0)).trans k0, (hb.cell (lt_of_cell k1)).trans k1, (hb.cell (lt_of_cell k2)).trans k2, (hb.cell (lt_of_cell k3)).trans k3, (hb.cell (lt_of_cell k4)).trans k4, (hb.cell (lt_of_cell k5)).trans k5, (hb.cell (lt_of_cell k6)).trans k6, (hb.cell (lt_of_cell k7)).trans k7, (hb.cell (lt_of_cell k8)).trans k8, (hb.cell (lt_of_cell k9)).trans k9, (hb.cell (lt_of_cell k10)).trans k10, (hb.cell (lt_of_cell k11)).trans k11, (hb.cell (lt_of_cell k12)).trans k12, (hb.cell (lt_of_cell b0)).trans b0, (hb.cell (lt_of_cell b1)).trans b1, (hb.cell (lt_of_cell b2)).trans b2, (hb.cell (lt_of_cell b3)).trans b3⟩
   replace HALL := Aside0.mk HALL
   clear b0 b1 b2 b3 k0 k1 k2 k3 k4 k5 k6 k7 k8 k9 k10 k11 k12
   refine wp_region_seqp (fun w' => Below w4.heap.size w4 w') [7] [(0, 2), (1, 2), (2, 2), (4, 2), (3, 1), (5, 1), (6, 2), (7, 0)] (by kernel_rfl) (by kernel_rfl) ?_
   have hS : Below w4.heap.size w4 w4.drew := Below.drew (Below.refl _ _)
   repeat ((first | (refine seqp_pure rfl (fun _ _ _ h => h) (by rfl) (fun w_ => by go_simp; first | done | with_reducible rfl) ?_) | (refine seqp_take hS rfl (fun _ _ _ h => h) (by rfl) (fun w_ hSw => by have hSc := HALL.out w_ hSw; clear hSw; go_simp; first | done | with_reducible rfl) ?_) | (refine seqp_skip2 rfl (fun _ _ _ h => h) (by rfl) ?_) | (refine seqp_skip1 hS rfl (fun _ _ _ h => h) (by rfl) ?_) | (refine seqp_skip0 rfl (by rfl) ?_)); (try simp only [Act.put, qqP]))
   refine seqp_step rfl (fun K hK => ?_)
   go_simp
   refine hK.out _ _ ⟨(fun h => (by cases h)), ?_⟩; clear hK K; (try simp only [Act.put, qqP])
   clear hS HALL
   refine seqp_done ?_
   obtain ⟨F5, hput⟩ := Sep.put (d := oMem) (i := i) (y := y) (us := [.slice E1 y.secs.length f1, .slice E2 y.cache.length f2, .bool y.failed, .slice E3 y.bad.length f3]) (HS4.out.selT 5 [3, 1, 2, 4] (by decide) (by simp <;> omega)) (by omega) (oMem_M.2 (HS4.out.get 1 rfl))
   simp only [qqN, qqT] at hput
   have hq := hput.selT 3 [1, 0, 2] (by decide) (by simp <;> omega)
   simp only [qqN, qqT] at hq
   have HE := Aside0.mk hq
   clear hput hq m0 m1 m2 m3 z0 z1 z2 z3
   go_wp2
   go_end0
   rw [HPV.out]
   refine ⟨F5, rfl, ?_⟩
   show Sep w0 S _ (bx g 34 (arrC ov (.slice (some ⟨hh, 0, none⟩) a.mems.length c) vd) :: rw_ oMem 89 F5 (.slice (some ⟨hh, 0, none⟩) a.mems.length c) (ov.mems.set i y) :: rw_ oInt 3 G (.slice XA xs.length xc) xs :: L)
   rw [HOM.out]
   first | exact HE.out.drew | exact HE.out
 ·have HPV := Aside0.mk (show putV a i k xs = a from turnV_failed HX.out HXF.out)
  go_enter Tryz.func112, Tryz.ntmps112
  go_wp2
  first | go_end0 | ((try simp only [Exit.inBlock, Exit.then]); refine bodyPost_ret (results_none rfl _ _ _) rfl ?_)
  rw [HPV.out]
  first | exact ⟨_, rfl, H0.out⟩ | exact ⟨rfl, _, H0.out⟩
set_option maxHeartbeats 8000000 in
set_option maxRecDepth 100000 in
theorem c_implPut {w0 w : World} {S : List Nat} {L : List Res} {g hh n c i xc : Nat} {k : Int} {XA : Option Addr} {F G : List Nat} {vd : Value} {a : ArrV} {xs : List Int} (hs : Sep w0 S w (bx g 34 (arrC a (.slice (some ⟨hh, 0, none⟩) n c) vd) :: rw_ oMem 89 F (.slice (some ⟨hh, 0, none⟩) n c) a.mems :: rw_ oInt 3 G (.slice XA xs.length xc) xs :: L)) (hn : n = a.mems.length) (hi : i < a.mems.length) (hd : a.down = false) (hfu : a.fuse ≤ 1000) (hsm : ∀ m ∈ a.mems, Small m) (hxl : xs.length ≤ 16777216) :
  Calls Tryz.prog 109 #[.pointer (some ⟨g, 0, none⟩), .int .i64 i, .int .i64 k, .slice XA xs.length xc] w fun e w' => ∃ F', e = .returned (.bool (!(putV a i k xs).down)) ∧ Sep w0 S w' (bx g 34 (arrC (putV a i k xs) (.slice (some ⟨hh, 0, none⟩) n c) vd) :: rw_ oMem 89 F' (.slice (some ⟨hh, 0, none⟩) n c) (putV a i k xs).mems :: rw_ oInt 3 G (.slice XA xs.length xc) xs :: L) := by
 have HSM := Aside0.mk hsm
 have HFU := Aside0.mk hfu
 have HN := Aside0.mk hn
 have H0 := Aside0.mk hs
 have HXL := Aside0.mk hxl
 have HD := Aside0.mk hd
 obtain ⟨k0, k1, k2, k3, k4, k5, k6, k7, k8, k9, k10, k11, k12⟩ := thirteen (hs.get 0 rfl)
 subst hn
 clear hs hsm hfu hxl hd
 obtain ⟨x, hx⟩ : ∃ x, a.mems[i]? = some x := ⟨_, List.getElem?_eq_getElem hi⟩
 obtain ⟨hz9, A1, c1, A2, c2, A3, c3, m0, m1, m2, m3, hM, hfr⟩ := mem_at (H0.out.get 1 rfl) hx
 clear hz9 hM hfr
 have HX := Aside0.mk hx
 have hxs := HSM.out x (List.mem_of_getElem? hx)
 have HXS := Aside0.mk hxs
 clear hxs hx
 have i0 : (0 : Int) ≤ (i : Int) := by omega
 have il : (i : Int) < (a.mems.length : Int) := by omega
 generalize hxf : x.failed = xf at *
 have HXF := Aside0.mk hxf
 clear hxf
 obtain ⟨ov, hov⟩ : ∃ ov, opV a = ov := ⟨_, rfl⟩
 have HOV := Aside0.mk hov
 have HOM := Aside0.mk (show ov.mems = a.mems by rw [← HOV.out]; exact opV_mems a)
 clear hov
 cases xf
 ·cases hob : opB a
  ·have HOB := Aside0.mk hob
   clear hob
   have HDN := Aside0.mk (show ov.down = true by rw [← HOV.out, opV_down HD.out, HOB.out]; rfl)
   have HPV := Aside0.mk (show putV a i k xs = ov from (turnV_no HX.out HXF.out HOB.out).trans HOV.out)
   go_enter Tryz.func109, Tryz.ntmps109
   go_wp2_with (first
    | (go_at_call 102; refine (c_implOp H0.out HD.out HFU.out).mono ?_; rw [HOB.out, HOV.out]; rintro e w2 ⟨rfl, hs2⟩; have HS2 := Aside0.mk hs2; clear hs2 m0 m1 m2 m3 k0 k1 k2 k3 k4 k5 k6 k7 k8 k9 k10 k11 k12; obtain ⟨k0, k1, k2, k3, k4, k5, k6, k7, k8, k9, k10, k11, k12⟩ := thirteen (HS2.out.get 0 rfl))
    | fail)
   go_ret
   rw [HPV.out, HDN.out]
   first | exact ⟨_, rfl, (by rw [HOM.out]; exact HS2.out)⟩ | exact ⟨rfl, _, (by rw [HOM.out]; exact HS2.out)⟩
  ·have HOB := Aside0.mk hob
   clear hob
   have HDN := Aside0.mk (show ov.down = false by rw [← HOV.out, opV_down HD.out, HOB.out]; rfl)
   obtain ⟨y, hy⟩ : ∃ y, writeV x k xs = y := ⟨_, rfl⟩
   have HYV := Aside0.mk hy
   clear hy
   have HPV := Aside0.mk (show putV a i k xs = setM ov i y by rw [← HYV.out, ← HOV.out]; exact turnV_yes HX.out HXF.out HOB.out)
   go_enter Tryz.func109, Tryz.ntmps109
   go_upto_region 5 with (first
    | (go_at_call 102; refine (c_implOp H0.out HD.out HFU.out).mono ?_; rw [HOB.out, HOV.out]; rintro e w2 ⟨rfl, hs2⟩; have HS2 := Aside0.mk hs2; clear hs2 m0 m1 m2 m3 k0 k1 k2 k3 k4 k5 k6 k7 k8 k9 k10 k11 k12; obtain ⟨k0, k1, k2, k3, k4, k5, k6, k7, k8, k9, k10, k11, k12⟩ := thirteen (HS2.out.get 0 rfl))
    | fail)
   obtain ⟨hz9, A1, c1, A2, c2, A3, c3, m0, m1, m2, m3, hM, hfr⟩ := mem_at (HS2.out.get 1 rfl) (show a.mems[i]? = some x from HX.out)
   rw [HXF.out] at m2 hM
   have RM := Aside0.mk hM
   clear hz9 hM hfr
   have HALL : ∀ w' : World, Below w2.heap.size w2 w' → (w'.cell? ⟨g, 0, none⟩ = some (.int .i64 ov.id) ∧ w'.cell? ⟨g, 1, none⟩ = some (.int .i64 ov.gn) ∧ w'.cell? ⟨g, 2, none⟩ = some (.int .i64 ov.gs) ∧ w'.cell? ⟨g, 3, none⟩ = some (.slice (some ⟨hh, 0, none⟩) a.mems.length c) ∧ w'.cell? ⟨g, 4, none⟩ = some (.int .i64 ov.lost) ∧ w'.cell? ⟨g, 5, none⟩ = some (.int .i64 ov.built) ∧ w'.cell? ⟨g, 6, none⟩ = some (.int .i64 ov.seq) ∧ w'.cell? ⟨g, 7, none⟩ = some (.int .i64 ov.tail) ∧ w'.cell? ⟨g, 8, none⟩ = some (.int .i64 ov.gen) ∧ w'.cell? ⟨g, 9, none⟩ = some (vd) ∧ w'.cell? ⟨g, 10, none⟩ = some (.int .i64 ov.fuse) ∧ w'.cell? ⟨g, 11, none⟩ = some (.bool ov.down) ∧ w'.cell? ⟨g, 12, none⟩ = some (.bool ov.broken) ∧ w'.cell? ⟨hh, i * 4, none⟩ = some (.slice A1 x.secs.length c1) ∧ w'.cell? ⟨hh, i * 4 + 1, none⟩ = some (.slice A2 x.cache.length c2) ∧ w'.cell? ⟨hh, i * 4 + 2, none⟩ = some (.bool false) ∧ w'.cell? ⟨hh, i * 4 + 3, none⟩ = some (.slice A3 x.bad.length c3)) := fun w' hb => ⟨(hb.cell (lt_of_cell k0)).trans k0, (hb.cell (lt_of_cell k1)).trans k1, (hb.cell (lt_of_cell k2)).trans k2, (hb.cell (lt_of_cell k3)).trans k3, (hb.cell (lt_of_cell k4)).trans k4, (hb.cell (lt_of_cell k5)).trans k5, (hb.cell (lt_of_cell k6)).trans k6, (hb.cell (lt_of_cell k7)).trans k7, (hb.cell (lt_of_cell k8)).trans k8, (hb.cell (lt_of_cell k9)).trans k9, (hb.cell (lt_of_cell k10)).trans k10, (hb.cell (lt_of_cell k11)).trans k11, (hb.cell (lt_of_cell k12)).trans k12, (hb.cell (lt_of_cell m0)).trans m0, (hb.cell (lt_of_cell m1)).trans m1, (hb.cell (lt_of_cell m2)).trans m2, (hb.cell (lt_of_cell m3)).trans m3⟩
   replace HALL := Aside0.mk HALL
   clear m0 m1 m2 m3 k0 k1 k2 k3 k4 k5 k6 k7 k8 k9 k10 k11 k12
   refine wp_region_seqp (fun w' => Below w2.heap.size w2 w') [19] [(0, 2), (1, 2), (2, 2), (4, 2), (5, 2), (6, 2), (7, 2), (9, 2), (12, 2), (13, 2), (3, 1), (8, 1), (10, 2), (11, 1), (14, 0), (15, 2), (16, 2), (17, 2), (18, 2), (19, 0)] (by kernel_rfl) (by kernel_rfl) ?_
   have hS : Below w2.heap.size w2 w2.drew := Below.drew (Below.refl _ _)
   repeat ((first | (refine seqp_pure rfl (fun _ _ _ h => h) (by rfl) (fun w_ => by go_simp; first | done | with_reducible rfl) ?_) | (refine seqp_take hS rfl (fun _ _ _ h => h) (by rfl) (fun w_ hSw => by have hSc := HALL.out w_ hSw; clear hSw; go_simp; first | done | with_reducible rfl) ?_) | (refine seqp_skip2 rfl (fun _ _ _ h => h) (by rfl) ?_) | (refine seqp_skip1 hS rfl (fun _ _ _ h => h) (by rfl) ?_) | (refine seqp_skip0 rfl (by rfl) ?_)); (try simp only [Act.put, qqP]))
   refine seqp_step rfl (fun K hK => ?_)
   go_simp
   go_at_call 147; refine (c_implWriteSec (MemR_below RM.out hS) HXS.out (O_RK (show oInt.O 3 _ G (.slice XA xs.length xc) xs from (HS2.out.below hS).get 2 rfl)) HXL.out).mono ?_; rintro e w3 ⟨u3, F3, rfl, hn3⟩; have hs3 := (HS2.out.below hS).new hn3; have hb := hn3.below; rw [HYV.out] at hs3; obtain ⟨E1, f1, E2, f2, E3, f3, rfl⟩ := me_form hs3; have HS3 := Aside0.mk hs3; clear hs3 hn3
   replace hS := hS.trans (hb.mono hS.size); clear hb; refine hK.out _ _ ⟨fun _ _ => hS, ?_⟩; clear hK K; (try simp only [Act.put, qqP])
   repeat ((first | (refine seqp_pure rfl (fun _ _ _ h => h) (by rfl) (fun w_ => by go_simp; first | done | with_reducible rfl) ?_) | (refine seqp_take hS rfl (fun _ _ _ h => h) (by rfl) (fun w_ hSw => by have hSc := HALL.out w_ hSw; clear hSw; go_simp; first | done | with_reducible rfl) ?_) | (refine seqp_skip2 rfl (fun _ _ _ h => h) (by rfl) ?_) | (refine seqp_skip1 hS rfl (fun _ _ _ h => h) (by rfl) ?_) | (refine seqp_skip0 rfl (by rfl) ?_)); (try simp only [Act.put, qqP]))
   obtain ⟨hz9, B1, d1, B2, d2, B3, d3, m0, m1, m2, m3, hM9, hfr⟩ := mem_at (HS3.out.get 2 rfl) HX.out
   clear hz9 hM9
   have z0 := hfr 0
   rw [Nat.add_zero] at z0
   have z1 := hfr 1
   have z2 := hfr 2
   have z3 := hfr 3
   clear hfr
   refine seqp_step rfl (fun K hK => ?_)
   go_simp
   refine hK.out _ _ ⟨(fun h => (by cases h)), ?_⟩; clear hK K; (try simp only [Act.put, qqP])
   clear hS HALL
   refine seqp_done ?_
   obtain ⟨F5, hput⟩ := Sep.put (d := oMem) (i := i) (y := y) (us := [.slice E1 y.secs.length f1, .slice E2 y.cache.length f2, .bool y.failed, .slice E3 y.bad.length f3]) (HS3.out.selT 4 [2, 0, 1, 3] (by decide) (by simp <;> omega)) (by omega) (oMem_M.2 (HS3.out.get 0 rfl))
   simp only [qqN, qqT] at hput
   have hq := hput.selT 3 [1, 0, 2] (by decide) (by simp <;> omega)
   simp only [qqN, qqT] at hq
   have HE := Aside0.mk hq
   clear hput hq m0 m1 m2 m3 z0 z1 z2 z3
   go_wp2
   go_ret
   rw [HPV.out]
   refine ⟨F5, by rw [show (setM ov i y).down = ov.down from rfl, HDN.out]; rfl, ?_⟩
   show Sep w0 S _ (bx g 34 (arrC ov (.slice (some ⟨hh, 0, none⟩) a.mems.length c) vd) :: rw_ oMem 89 F5 (.slice (some ⟨hh, 0, none⟩) a.mems.length c) (ov.mems.set i y) :: rw_ oInt 3 G (.slice XA xs.length xc) xs :: L)
   rw [HOM.out]
   first | exact HE.out.drew | exact HE.out
 ·have HPV := Aside0.mk (show putV a i k xs = a from turnV_failed HX.out HXF.out)
  go_enter Tryz.func109, Tryz.ntmps109
  go_wp2
  go_ret
  rw [HPV.out, HD.out]
  first | exact ⟨_, rfl, H0.out⟩ | exact ⟨rfl, _, H0.out⟩
end APut
namespace ASupOf
open Go.RowKit RJ RP Go.Proofs.YtggmifnblcjdfaaGreatW.PrintWords Fp FpStep MInt MKinds MRead MMake MPut MHeld MOk MSuper Go.Proofs.YtggmifnblcjdfaaGreat.Sep SepStep AKinds AMake AEnt ALaw AArr AOk AMarkV
set_option maxHeartbeats 8000000 in
set_option maxRecDepth 100000 in
theorem c_superOf {w : World} {vm vd : Value} {a : ArrV} (i : Nat) :
  Calls Tryz.prog 111 #[.agg (arrC a vm vd), .int .i64 i] w fun e w' => e = .returned (.agg #[.int .i64 a.id, .int .i64 a.gen, .int .i64 i, .int .i64 a.gn, .int .i64 a.gs, .int .i64 a.tail, .int .i64 a.lost, .int .i64 a.built]) ∧ Sep w [] w' [] := by
 have HI := Aside0.mk (((Sep.start w []).alloc (g := w.heap.size) rfl (arrC a vm vd) 34).alloc (g := w.heap.size + 1) (by simp) #[.int .i64 0, .int .i64 0, .int .i64 0, .int .i64 0, .int .i64 0, .int .i64 0, .int .i64 0, .int .i64 0] 121)
 simp only [arrC] at *
 obtain ⟨k0, k1, k2, k3, k4, k5, k6, k7, k8, k9, k10, k11, k12⟩ := thirteen (HI.out.get 1 rfl)
 go_enter Tryz.func111, Tryz.ntmps111
 go_wp2
 clear k0 k1 k2 k3 k4 k5 k6 k7 k8 k9 k10 k11 k12 HI
 have HE := (((Sep.start w []).alloc (g := w.heap.size) rfl #[.int .i64 a.id, .int .i64 a.gn, .int .i64 a.gs, vm, .int .i64 a.lost, .int .i64 a.built, .int .i64 a.seq, .int .i64 a.tail, .int .i64 a.gen, vd, .int .i64 a.fuse, .bool a.down, .bool a.broken] 34).alloc (g := w.heap.size + 1) (by simp) #[.int .i64 a.id, .int .i64 a.gen, .int .i64 i, .int .i64 a.gn, .int .i64 a.gs, .int .i64 a.tail, .int .i64 a.lost, .int .i64 a.built] 121)
 refine bodyPost_ret (results_cell_row rfl _ _ (w.heap.size + 1) 121 #[.int .i64 a.id, .int .i64 a.gen, .int .i64 i, .int .i64 a.gn, .int .i64 a.gs, .int .i64 a.tail, .int .i64 a.lost, .int .i64 a.built] (0, 0) _ rfl (HE.get 0 rfl) Tryz.underlying121 rfl (by kernel_rfl)) rfl ?_
 have hB := HE.sel [] (by decide) (by simp)
 exact ⟨rfl, hB⟩
end ASupOf
namespace AMarkF
open Go.RowKit RJ RP Go.Proofs.YtggmifnblcjdfaaGreatW.PrintWords Fp FpStep MInt MKinds MRead MMake MPut MHeld MOk MSuper Go.Proofs.YtggmifnblcjdfaaGreat.Sep SepStep AKinds AMake AEnt ALaw AArr AOk RPC MVal AHole AMark AOpV AOp ASyncF AMarkV APut ASupOf AOkD AOkI AOkA
theorem syncV_fuse {a : ArrV} (h : a.fuse ≤ 1000) : (syncV a).fuse ≤ 1000 := syncN_fuse h _
theorem syncV_small {a : ArrV} (h : ∀ m ∈ a.mems, Small m) : ∀ m ∈ (syncV a).mems, Small m := syncN_small h _
theorem putN_step (a : ArrV) {i : Nat} {st : ArrV} (h : putN (genV a) i = st) : putN (genV a) (i + 1) = putV st i (st.gen % 2) (putSup ⟨st.id, st.gen, i, st.gn, st.gs, st.tail, st.lost, st.built⟩) := by
 have q := putN_same (genV a) i
 rw [putN, h]
 rw [h] at q
 rw [q.id, q.gen, q.gn, q.gs, q.tail, q.lost, q.built]; rfl
theorem putSup_small (s : SupV) : (putSup s).length ≤ 16777216 := by have := putSup_len s; omega
set_option maxHeartbeats 8000000 in
set_option maxRecDepth 100000 in
theorem c_implMarkF {w0 w : World} {S : List Nat} {L : List Res} {g hh n c : Nat} {F : List Nat} {vd : Value} {a : ArrV} (hs : Sep w0 S w (bx g 34 (arrC a (.slice (some ⟨hh, 0, none⟩) n c) vd) :: rw_ oMem 89 F (.slice (some ⟨hh, 0, none⟩) n c) a.mems :: L)) (hn : n = a.mems.length) (hml : a.mems.length ≤ 16777216) (hd : a.down = false) (hfu : a.fuse ≤ 1000) (hsm : ∀ m ∈ a.mems, Small m) (hge : 0 ≤ a.gen ∧ a.gen < 60000) :
  Calls Tryz.prog 62 #[.pointer (some ⟨g, 0, none⟩)] w fun e w' => ∃ F', e = .returned (.bool (!(markV a).down)) ∧ Sep w0 S w' (bx g 34 (arrC (markV a) (.slice (some ⟨hh, 0, none⟩) n c) vd) :: rw_ oMem 89 F' (.slice (some ⟨hh, 0, none⟩) n c) (markV a).mems :: L) := by
 have HSM := Aside0.mk hsm
 have HFU := Aside0.mk hfu
 have HN := Aside0.mk hn
 have HM1 := Aside0.mk hml
 have H0 := Aside0.mk hs
 have HD0 := Aside0.mk hd
 have HGE := Aside0.mk hge
 obtain ⟨hg0, hg1⟩ := hge
 obtain ⟨k0, k1, k2, k3, k4, k5, k6, k7, k8, k9, k10, k11, k12⟩ := thirteen (hs.get 0 rfl)
 have gz := blk_frozen (hs.get 0 rfl)
 subst hn
 clear hs hsm hfu hd
 go_enter Tryz.func62, Tryz.ntmps62
 go_wp2
 go_loopw [16] (fun v9 wr => ∃ (i : Nat) (st : ArrV) (F' : List Nat), i ≤ a.mems.length ∧ v9 = .int .i64 i ∧ Aside0 (putN (genV a) i = st) ∧ Aside0 (st.down = false) ∧ Aside0 (Sep w0 S wr (bx g 34 (arrC st (.slice (some ⟨hh, 0, none⟩) a.mems.length c) vd) :: rw_ oMem 89 F' (.slice (some ⟨hh, 0, none⟩) a.mems.length c) st.mems :: L))) (fun v9 _ => a.mems.length - (intOf v9).toNat)
 case atStart =>
  have hB := H0.out.setb 0 rfl 8 (.int .i64 (a.gen + 1)) (cs' := #[.int .i64 (genV a).id, .int .i64 (genV a).gn, .int .i64 (genV a).gs, .slice (some ⟨hh, 0, none⟩) a.mems.length c, .int .i64 (genV a).lost, .int .i64 (genV a).built, .int .i64 (genV a).seq, .int .i64 (genV a).tail, .int .i64 (genV a).gen, vd, .int .i64 (genV a).fuse, .bool (genV a).down, .bool (genV a).broken]) rfl
  simp only [List.set_cons_zero] at hB
  exact ⟨0, genV a, F, by omega, rfl, ⟨rfl⟩, ⟨HD0.out⟩, ⟨hB⟩⟩
 case round =>
  clear H0 gz k0 k1 k2 k3 k4 k5 k6 k7 k8 k9 k10 k11 k12 HD0 hg0 hg1
  obtain ⟨i, st, F', hi, rfl, HST, HD, HR⟩ := hrel
  have HSAME := Aside0.mk (show Same (genV a) st by rw [← HST.out]; exact putN_same _ i)
  have hsl : st.mems.length = a.mems.length := HSAME.out.len
  have HFS := Aside0.mk (show st.fuse ≤ 1000 by rw [← HST.out]; exact putN_fuse (a := genV a) HFU.out i)
  have HSS := Aside0.mk (show ∀ m ∈ st.mems, Small m by rw [← HST.out]; exact putN_small (a := genV a) HSM.out i)
  have HSL := Aside0.mk hsl
  clear hsl
  have hg0 : 0 ≤ st.gen := by have h1 := HSAME.out.gen; have h2 := HGE.out; simp only [genV] at h1; omega
  have hg1 : st.gen ≤ 60000 := by have h1 := HSAME.out.gen; have h2 := HGE.out; simp only [genV] at h1; omega
  obtain ⟨k0, k1, k2, k3, k4, k5, k6, k7, k8, k9, k10, k11, k12⟩ := thirteen (HR.out.get 0 rfl)
  by_cases hlt : i < a.mems.length
  ·have i0 : (0 : Int) ≤ (i : Int) := by omega
   have il : (i : Int) < (a.mems.length : Int) := by omega
   obtain ⟨xs, hxs⟩ : ∃ xs, putSup ⟨st.id, st.gen, i, st.gn, st.gs, st.tail, st.lost, st.built⟩ = xs := ⟨_, rfl⟩
   have HXS := Aside0.mk hxs
   have HXL := Aside0.mk (show xs.length ≤ 16777216 by rw [← hxs]; exact putSup_small _)
   clear hxs
   obtain ⟨nx, hnx⟩ : ∃ nx, putV st i (st.gen.tmod 2) xs = nx := ⟨_, rfl⟩
   have HNX := Aside0.mk hnx
   have HN1 := Aside0.mk (show putN (genV a) (i + 1) = nx by rw [putN_step a HST.out, HXS.out, ← Int.tmod_eq_emod_of_nonneg hg0]; exact hnx)
   clear hnx
   go_upto_region 5 with fail
   skip
   have HALL : ∀ w' : World, Below wr.heap.size wr w' → (w'.cell? ⟨g, 0, none⟩ = some (.int .i64 st.id) ∧ w'.cell? ⟨g, 1, none⟩ = some (.int .i64 st.gn) ∧ w'.cell? ⟨g, 2, none⟩ = some (.int .i64 st.gs) ∧ w'.cell? ⟨g, 3, none⟩ = some (.slice (some ⟨hh, 0, none⟩) a.mems.length c) ∧ w'.cell? ⟨g, 4, none⟩ = some (.int .i64 st.lost) ∧ w'.cell? ⟨g, 5, none⟩ = some (.int .i64 st.built) ∧ w'.cell? ⟨g, 6, none⟩ = some (.int .i64 st.seq) ∧ w'.cell? ⟨g, 7, none⟩ = some (.int .i64 st.tail) ∧ w'.cell? ⟨g, 8, none⟩ = some (.int .i64 st.gen) ∧ w'.cell? ⟨g, 9, none⟩ = some (vd) ∧ w'.cell? ⟨g, 10, none⟩ = some (.int .i64 st.fuse) ∧ w'.cell? ⟨g, 11, none⟩ = some (.bool st.down) ∧ w'.cell? ⟨g, 12, none⟩ = some (.bool st.broken)) := fun w' hb => ⟨(hb.cell (lt_of_cell k0)).trans k0, (hb.cell (lt_of_cell k1)).trans k1, (hb.cell (lt_of_cell k2)).trans k2, (hb.cell (lt_of_cell k3)).trans k3, (hb.cell (lt_of_cell k4)).trans k4, (hb.cell (lt_of_cell k5)).trans k5, (hb.cell (lt_of_cell k6)).trans k6, (hb.cell (lt_of_cell k7)).trans k7, (hb.cell (lt_of_cell k8)).trans k8, (hb.cell (lt_of_cell k9)).trans k9, (hb.cell (lt_of_cell k10)).trans k10, (hb.cell (lt_of_cell k11)).trans k11, (hb.cell (lt_of_cell k12)).trans k12⟩
   replace HALL := Aside0.mk HALL
   clear k0 k1 k2 k3 k4 k5 k6 k7 k8 k9 k10 k11 k12
   refine wp_region_seqc (fun w' => Below wr.heap.size wr w') [13] [(0, 2), (1, 2), (2, 2), (3, 2), (4, 2), (7, 2), (8, 2), (10, 2), (5, 1), (6, 2), (9, 1), (11, 0), (12, 0), (13, 0), (14, 2)] (by kernel_rfl) (by kernel_rfl) ?_
   have hS : Below wr.heap.size wr wr.drew := Below.drew (Below.refl _ _)
   repeat ((first | (refine seqp_pure rfl (fun _ _ _ h => h) (by rfl) (fun w_ => by go_simp; first | done | with_reducible rfl) ?_) | (refine seqp_take hS rfl (fun _ _ _ h => h) (by rfl) (fun w_ hSw => by have hSc := HALL.out w_ hSw; clear hSw; go_simp; first | done | with_reducible rfl) ?_) | (refine seqp_skip2 rfl (fun _ _ _ h => h) (by rfl) ?_) | (refine seqp_skip1 hS rfl (fun _ _ _ h => h) (by rfl) ?_) | (refine seqp_skip0 rfl (by rfl) ?_)); (try simp only [Act.put, qqP]))
   refine seqp_step rfl (fun K hK => ?_)
   go_simp
   go_at_call 111; refine (c_superOf i).mono ?_; rintro e w3 ⟨rfl, hz3⟩; have HS3 := Aside0.mk ((HR.out.below hS).below hz3.toBelow); have hb := hz3.toBelow; clear hz3
   replace hS := hS.trans (hb.mono hS.size); clear hb; refine hK.out _ _ ⟨fun _ _ => hS, ?_⟩; clear hK K; (try simp only [Act.put, qqP])
   refine seqp_step rfl (fun K hK => ?_)
   go_simp
   go_at_call 110; refine (c_implPutSuper _ _ _ _ _ _ _ _ _).mono ?_; rw [HXS.out]; rintro e w4 ⟨u4, F4, rfl, hn4⟩; obtain ⟨A4, c4, rfl, _⟩ := O_reads (show oInt.O 3 w4 F4 u4 _ from hn4.lies.now); have hs4 := HS3.out.new hn4; have hb := hn4.below; clear hn4; have hB := hs4.selT 3 [1, 2, 0] (by decide) (by simp <;> omega); simp only [qqN, qqT] at hB; have HS4 := Aside0.mk hB; clear hs4 hB
   replace hS := hS.trans (hb.mono hS.size); clear hb; refine hK.out _ _ ⟨fun _ _ => hS, ?_⟩; clear hK K; (try simp only [Act.put, qqP])
   refine seqp_step rfl (fun K hK => ?_)
   go_simp
   go_at_call 109; refine (c_implPut (i := i) (k := st.gen.tmod 2) (xs := xs) HS4.out HSL.out.symm (by have := HSL.out; omega) HD.out HFS.out HSS.out HXL.out).mono ?_; rw [HNX.out]; rintro e w5 ⟨F5, rfl, hs5⟩; have hB := hs5.selT 3 [0, 1] (by decide) (by simp <;> omega); simp only [qqN, qqT] at hB; have HS5 := Aside0.mk hB; clear hs5 hB HS4 HS3
   refine hK.out _ _ ⟨(fun h => (by cases h)), ?_⟩; clear hK K; (try simp only [Act.put, qqP])
   iterate 1 (refine seqp_pure rfl (fun _ _ _ h => h) (by rfl) (fun w_ => by go_simp; first | done | with_reducible rfl) ?_; (try simp only [Act.put, qqP]))
   clear hS HALL
   refine seqp_done ?_
   cases hdn : nx.down
   ·have HDN := Aside0.mk hdn
    have hdb : (!nx.down) = true := by rw [hdn]; rfl
    clear hdn
    go_wp2
    go_roundw
    case rel => exact ⟨i + 1, nx, F5, by omega, by go_num, HN1, HDN, HS5⟩
    case measure => simp [intOf]; omega
   ·have HDN := Aside0.mk hdn
    have hdb : (!nx.down) = false := by rw [hdn]; rfl
    clear hdn
    have HMV := Aside0.mk (show markV a = nx by rw [markV_down (i := i + 1) (by rw [HN1.out]; exact HDN.out) (by omega), HN1.out])
    go_wp2
    go_ret
    rw [HMV.out, HDN.out]
    first | exact ⟨_, rfl, HS5.out⟩ | exact ⟨rfl, _, HS5.out⟩
  ·obtain rfl : i = a.mems.length := by omega
   have HMV := Aside0.mk (show syncV st = markV a by unfold markV; rw [HST.out])
   go_wp2_with (first
    | (go_at_call 58; refine (c_implSyncF HR.out HSL.out.symm (by have := HSL.out; have := HM1.out; omega) HD.out HFS.out HSS.out).mono ?_; rw [HMV.out]; rintro e w6 ⟨F6, rfl, hs6⟩; have HS6 := Aside0.mk hs6; clear hs6)
    | fail)
   go_ret
   first | exact ⟨_, rfl, HS6.out⟩ | exact ⟨rfl, _, HS6.out⟩
set_option maxHeartbeats 8000000 in
set_option maxRecDepth 100000 in
theorem c_specMarkF {w0 w : World} {S : List Nat} {L : List Res} {g hh n c : Nat} {F : List Nat} {vd : Value} {a : ArrV} (hs : Sep w0 S w (bx g 34 (arrC a (.slice (some ⟨hh, 0, none⟩) n c) vd) :: rw_ oMem 89 F (.slice (some ⟨hh, 0, none⟩) n c) a.mems :: L)) (hn : n = a.mems.length) (hml : a.mems.length ≤ 16777216) (hd : a.down = false) (hfu : a.fuse ≤ 1000) (hsm : ∀ m ∈ a.mems, Small m) (hge : 0 ≤ a.gen ∧ a.gen < 60000) :
  Calls Tryz.prog 63 #[.pointer (some ⟨g, 0, none⟩)] w fun e w' => ∃ F', e = .returned (.tuple #[]) ∧ Sep w0 S w' (bx g 34 (arrC (markV a) (.slice (some ⟨hh, 0, none⟩) n c) vd) :: rw_ oMem 89 F' (.slice (some ⟨hh, 0, none⟩) n c) (markV a).mems :: L) := by
 have HSM := Aside0.mk hsm
 have HFU := Aside0.mk hfu
 have HN := Aside0.mk hn
 have HM1 := Aside0.mk hml
 have H0 := Aside0.mk hs
 have HD0 := Aside0.mk hd
 have HGE := Aside0.mk hge
 obtain ⟨hg0, hg1⟩ := hge
 obtain ⟨k0, k1, k2, k3, k4, k5, k6, k7, k8, k9, k10, k11, k12⟩ := thirteen (hs.get 0 rfl)
 have gz := blk_frozen (hs.get 0 rfl)
 subst hn
 clear hs hsm hfu hd
 go_enter Tryz.func63, Tryz.ntmps63
 go_wp2
 go_loopw [2] (fun v9 wr => ∃ (i : Nat) (st : ArrV) (F' : List Nat), i ≤ a.mems.length ∧ v9 = .int .i64 i ∧ Aside0 (putN (genV a) i = st) ∧ Aside0 (Sep w0 S wr (bx g 34 (arrC st (.slice (some ⟨hh, 0, none⟩) a.mems.length c) vd) :: rw_ oMem 89 F' (.slice (some ⟨hh, 0, none⟩) a.mems.length c) st.mems :: L))) (fun v9 _ => a.mems.length - (intOf v9).toNat)
 case atStart =>
  have hB := H0.out.setb 0 rfl 8 (.int .i64 (a.gen + 1)) (cs' := #[.int .i64 (genV a).id, .int .i64 (genV a).gn, .int .i64 (genV a).gs, .slice (some ⟨hh, 0, none⟩) a.mems.length c, .int .i64 (genV a).lost, .int .i64 (genV a).built, .int .i64 (genV a).seq, .int .i64 (genV a).tail, .int .i64 (genV a).gen, vd, .int .i64 (genV a).fuse, .bool (genV a).down, .bool (genV a).broken]) rfl
  simp only [List.set_cons_zero] at hB
  exact ⟨0, genV a, F, by omega, rfl, ⟨rfl⟩, ⟨hB⟩⟩
 case round =>
  clear H0 gz k0 k1 k2 k3 k4 k5 k6 k7 k8 k9 k10 k11 k12 HD0 hg0 hg1
  obtain ⟨i, st, F', hi, rfl, HST, HR⟩ := hrel
  have HSAME := Aside0.mk (show Same (genV a) st by rw [← HST.out]; exact putN_same _ i)
  have hsl : st.mems.length = a.mems.length := HSAME.out.len
  have HFS := Aside0.mk (show st.fuse ≤ 1000 by rw [← HST.out]; exact putN_fuse (a := genV a) HFU.out i)
  have HSS := Aside0.mk (show ∀ m ∈ st.mems, Small m by rw [← HST.out]; exact putN_small (a := genV a) HSM.out i)
  have HSL := Aside0.mk hsl
  clear hsl
  have hg0 : 0 ≤ st.gen := by have h1 := HSAME.out.gen; have h2 := HGE.out; simp only [genV] at h1; omega
  have hg1 : st.gen ≤ 60000 := by have h1 := HSAME.out.gen; have h2 := HGE.out; simp only [genV] at h1; omega
  obtain ⟨k0, k1, k2, k3, k4, k5, k6, k7, k8, k9, k10, k11, k12⟩ := thirteen (HR.out.get 0 rfl)
  by_cases hlt : i < a.mems.length
  ·have i0 : (0 : Int) ≤ (i : Int) := by omega
   have il : (i : Int) < (a.mems.length : Int) := by omega
   obtain ⟨xs, hxs⟩ : ∃ xs, putSup ⟨st.id, st.gen, i, st.gn, st.gs, st.tail, st.lost, st.built⟩ = xs := ⟨_, rfl⟩
   have HXS := Aside0.mk hxs
   have HXL := Aside0.mk (show xs.length ≤ 16777216 by rw [← hxs]; exact putSup_small _)
   clear hxs
   obtain ⟨nx, hnx⟩ : ∃ nx, putV st i (st.gen.tmod 2) xs = nx := ⟨_, rfl⟩
   have HNX := Aside0.mk hnx
   have HN1 := Aside0.mk (show putN (genV a) (i + 1) = nx by rw [putN_step a HST.out, HXS.out, ← Int.tmod_eq_emod_of_nonneg hg0]; exact hnx)
   clear hnx
   go_upto_region 4 with fail
   skip
   have HALL : ∀ w' : World, Below wr.heap.size wr w' → (w'.cell? ⟨g, 0, none⟩ = some (.int .i64 st.id) ∧ w'.cell? ⟨g, 1, none⟩ = some (.int .i64 st.gn) ∧ w'.cell? ⟨g, 2, none⟩ = some (.int .i64 st.gs) ∧ w'.cell? ⟨g, 3, none⟩ = some (.slice (some ⟨hh, 0, none⟩) a.mems.length c) ∧ w'.cell? ⟨g, 4, none⟩ = some (.int .i64 st.lost) ∧ w'.cell? ⟨g, 5, none⟩ = some (.int .i64 st.built) ∧ w'.cell? ⟨g, 6, none⟩ = some (.int .i64 st.seq) ∧ w'.cell? ⟨g, 7, none⟩ = some (.int .i64 st.tail) ∧ w'.cell? ⟨g, 8, none⟩ = some (.int .i64 st.gen) ∧ w'.cell? ⟨g, 9, none⟩ = some (vd) ∧ w'.cell? ⟨g, 10, none⟩ = some (.int .i64 st.fuse) ∧ w'.cell? ⟨g, 11, none⟩ = some (.bool st.down) ∧ w'.cell? ⟨g, 12, none⟩ = some (.bool st.broken)) := fun w' hb => ⟨(hb.cell (lt_of_cell k0)).trans k0, (hb.cell (lt_of_cell k1)).trans k1, (hb.cell (lt_of_cell k2)).trans k2, (hb.cell (lt_of_cell k3)).trans k3, (hb.cell (lt_of_cell k4)).trans k4, (hb.cell (lt_of_cell k5)).trans k5, (hb.cell (lt_of_cell k6)).trans k6, (hb.cell (lt_of_cell k7)).trans k7, (hb.cell (lt_of_cell k8)).trans k8, (hb.cell (lt_of_cell k9)).trans k9, (hb.cell (lt_of_cell k10)).trans k10, (hb.cell (lt_of_cell k11)).trans k11, (hb.cell (lt_of_cell k12)).trans k12⟩
   replace HALL := Aside0.mk HALL
   clear k0 k1 k2 k3 k4 k5 k6 k7 k8 k9 k10 k11 k12
   refine wp_region_seqc (fun w' => Below wr.heap.size wr w') [40] [(0, 2), (1, 2), (2, 2), (3, 2), (4, 2), (7, 2), (8, 2), (9, 2), (11, 2), (12, 2), (13, 2), (15, 2), (16, 2), (17, 2), (18, 2), (19, 2), (21, 2), (22, 2), (23, 2), (24, 2), (26, 2), (27, 2), (28, 2), (30, 2), (31, 2), (32, 2), (34, 2), (35, 2), (36, 2), (5, 1), (6, 2), (10, 1), (14, 1), (20, 1), (25, 1), (29, 1), (33, 1), (37, 1), (38, 2), (39, 0), (40, 0)] (by kernel_rfl) (by kernel_rfl) ?_
   have hS : Below wr.heap.size wr wr.drew := Below.drew (Below.refl _ _)
   repeat ((first | (refine seqp_pure rfl (fun _ _ _ h => h) (by rfl) (fun w_ => by go_simp; first | done | with_reducible rfl) ?_) | (refine seqp_take hS rfl (fun _ _ _ h => h) (by rfl) (fun w_ hSw => by have hSc := HALL.out w_ hSw; clear hSw; go_simp; first | done | with_reducible rfl) ?_) | (refine seqp_skip2 rfl (fun _ _ _ h => h) (by rfl) ?_) | (refine seqp_skip1 hS rfl (fun _ _ _ h => h) (by rfl) ?_) | (refine seqp_skip0 rfl (by rfl) ?_)); (try simp only [Act.put, qqP]))
   have HS3 := Aside0.mk (HR.out.below hS)
   refine seqp_step rfl (fun K hK => ?_)
   go_simp
   go_at_call 113; refine (c_specPutSuper _ _ _ _ _ _ _ _ _).mono ?_; rw [HXS.out]; rintro e w4 ⟨u4, F4, rfl, hn4⟩; obtain ⟨A4, c4, rfl, _⟩ := O_reads (show oInt.O 3 w4 F4 u4 _ from hn4.lies.now); have hs4 := HS3.out.new hn4; have hb := hn4.below; clear hn4; have hB := hs4.selT 3 [1, 2, 0] (by decide) (by simp <;> omega); simp only [qqN, qqT] at hB; have HS4 := Aside0.mk hB; clear hs4 hB
   replace hS := hS.trans (hb.mono hS.size); clear hb; refine hK.out _ _ ⟨fun _ _ => hS, ?_⟩; clear hK K; (try simp only [Act.put, qqP])
   refine seqp_step rfl (fun K hK => ?_)
   go_simp
   go_at_call 112; refine (c_specPut (i := i) (k := st.gen.tmod 2) (xs := xs) HS4.out HSL.out.symm (by have := HSL.out; omega) HFS.out HSS.out HXL.out).mono ?_; rw [HNX.out]; rintro e w5 ⟨F5, rfl, hs5⟩; have hB := hs5.selT 3 [0, 1] (by decide) (by simp <;> omega); simp only [qqN, qqT] at hB; have HS5 := Aside0.mk hB; clear hs5 hB HS4 HS3
   refine hK.out _ _ ⟨(fun h => (by cases h)), ?_⟩; clear hK K; (try simp only [Act.put, qqP])
   clear hS HALL
   refine seqp_done ?_
   go_wp2
   go_roundw
   case rel => exact ⟨i + 1, nx, F5, by omega, by go_num, HN1, HS5⟩
   case measure => simp [intOf]; omega
  ·obtain rfl : i = a.mems.length := by omega
   have HMV := Aside0.mk (show syncV st = markV a by unfold markV; rw [HST.out])
   go_wp2_with (first
    | (go_at_call 60; refine (c_specSyncF HR.out HSL.out.symm (by have := HSL.out; have := HM1.out; omega) HFS.out HSS.out).mono ?_; rw [HMV.out]; rintro e w6 ⟨F6, rfl, hs6⟩; have HS6 := Aside0.mk hs6; clear hs6)
    | fail)
   go_end0
   first | exact ⟨_, rfl, HS6.out⟩ | exact ⟨rfl, _, HS6.out⟩
set_option maxHeartbeats 8000000 in
set_option maxRecDepth 100000 in
theorem c_implCheckF {w0 w : World} {S : List Nat} {L : List Res} {g hh n c : Nat} {F : List Nat} {vd : Value} {a : ArrV} (hs : Sep w0 S w (bx g 34 (arrC a (.slice (some ⟨hh, 0, none⟩) n c) vd) :: rw_ oMem 89 F (.slice (some ⟨hh, 0, none⟩) n c) a.mems :: L)) (hn : n = a.mems.length) (hml : a.mems.length ≤ 16777216) (hd : a.down = false) (hfu : a.fuse ≤ 1000) (hsm : ∀ m ∈ a.mems, Small m) (hge : 0 ≤ a.gen ∧ a.gen < 60000) :
  Calls Tryz.prog 64 #[.pointer (some ⟨g, 0, none⟩)] w fun e w' => ∃ F', e = .returned (.bool (!(checkV a).down)) ∧ Sep w0 S w' (bx g 34 (arrC (checkV a) (.slice (some ⟨hh, 0, none⟩) n c) vd) :: rw_ oMem 89 F' (.slice (some ⟨hh, 0, none⟩) n c) (checkV a).mems :: L) := by
 have HSM := Aside0.mk hsm
 have HFU := Aside0.mk hfu
 have HN := Aside0.mk hn
 have HM1 := Aside0.mk hml
 have H0 := Aside0.mk hs
 have HD0 := Aside0.mk hd
 have HGE := Aside0.mk hge
 subst hn
 clear hs hsm hfu hd hge
 obtain ⟨sv, hsv⟩ : ∃ sv, syncV a = sv := ⟨_, rfl⟩
 have HSV := Aside0.mk hsv
 clear hsv
 have HSAME := Aside0.mk (show Same a sv by rw [← HSV.out]; exact syncN_same a _)
 cases hdn : sv.down
 ·have HDS := Aside0.mk hdn
  have hdb : (!sv.down) = true := by rw [hdn]; rfl
  clear hdn
  have HCV := Aside0.mk (show markV (tailV sv) = checkV a by unfold checkV; rw [HSV.out, HDS.out]; rfl)
  go_enter Tryz.func64, Tryz.ntmps64
  go_wp2_with (first
   | (go_at_call 62; have hB := HS2.out.setb 0 rfl 7 (.int .i64 sv.seq) (cs' := #[.int .i64 (tailV sv).id, .int .i64 (tailV sv).gn, .int .i64 (tailV sv).gs, .slice (some ⟨hh, 0, none⟩) a.mems.length c, .int .i64 (tailV sv).lost, .int .i64 (tailV sv).built, .int .i64 (tailV sv).seq, .int .i64 (tailV sv).tail, .int .i64 (tailV sv).gen, vd, .int .i64 (tailV sv).fuse, .bool (tailV sv).down, .bool (tailV sv).broken]) rfl; simp only [List.set_cons_zero] at hB; refine (c_implMarkF (a := tailV sv) hB HSAME.out.len.symm (by have h1 := HSAME.out.len; have := HM1.out; simp only [tailV]; omega) HDS.out (by rw [← HSV.out]; exact syncV_fuse HFU.out) (by rw [← HSV.out]; exact syncV_small HSM.out) (by have h1 := HSAME.out.gen; have := HGE.out; simp only [tailV]; omega)).mono ?_; rw [HCV.out]; rintro e w6 ⟨F6, rfl, hs6⟩; have HS6 := Aside0.mk hs6; clear hs6 hB)
   | (go_at_call 58; refine (c_implSyncF H0.out rfl HM1.out HD0.out HFU.out HSM.out).mono ?_; rw [HSV.out]; rintro e w2 ⟨F2, rfl, hs2⟩; have HS2 := Aside0.mk hs2; clear hs2; obtain ⟨k0, k1, k2, k3, k4, k5, k6, k7, k8, k9, k10, k11, k12⟩ := thirteen (HS2.out.get 0 rfl); skip; have gz := blk_frozen (HS2.out.get 0 rfl))
   | fail)
  go_ret
  first | exact ⟨_, rfl, HS6.out⟩ | exact ⟨rfl, _, HS6.out⟩
 ·have HDS := Aside0.mk hdn
  have hdb : (!sv.down) = false := by rw [hdn]; rfl
  clear hdn
  have HCV := Aside0.mk (show checkV a = sv by unfold checkV; rw [HSV.out, HDS.out]; rfl)
  go_enter Tryz.func64, Tryz.ntmps64
  go_wp2_with (first
   | (go_at_call 58; refine (c_implSyncF H0.out rfl HM1.out HD0.out HFU.out HSM.out).mono ?_; rw [HSV.out]; rintro e w2 ⟨F2, rfl, hs2⟩; have HS2 := Aside0.mk hs2; clear hs2; obtain ⟨k0, k1, k2, k3, k4, k5, k6, k7, k8, k9, k10, k11, k12⟩ := thirteen (HS2.out.get 0 rfl); skip; have gz := blk_frozen (HS2.out.get 0 rfl))
   | fail)
  go_ret
  rw [HCV.out, HDS.out]
  first | exact ⟨_, rfl, HS2.out⟩ | exact ⟨rfl, _, HS2.out⟩
set_option maxHeartbeats 8000000 in
set_option maxRecDepth 100000 in
theorem c_specCheckF {w0 w : World} {S : List Nat} {L : List Res} {g hh n c : Nat} {F : List Nat} {vd : Value} {a : ArrV} (hs : Sep w0 S w (bx g 34 (arrC a (.slice (some ⟨hh, 0, none⟩) n c) vd) :: rw_ oMem 89 F (.slice (some ⟨hh, 0, none⟩) n c) a.mems :: L)) (hn : n = a.mems.length) (hml : a.mems.length ≤ 16777216) (hd : a.down = false) (hfu : a.fuse ≤ 1000) (hsm : ∀ m ∈ a.mems, Small m) (hge : 0 ≤ a.gen ∧ a.gen < 60000) :
  Calls Tryz.prog 65 #[.pointer (some ⟨g, 0, none⟩)] w fun e w' => ∃ F', e = .returned (.tuple #[]) ∧ Sep w0 S w' (bx g 34 (arrC (checkV a) (.slice (some ⟨hh, 0, none⟩) n c) vd) :: rw_ oMem 89 F' (.slice (some ⟨hh, 0, none⟩) n c) (checkV a).mems :: L) := by
 have HSM := Aside0.mk hsm
 have HFU := Aside0.mk hfu
 have HN := Aside0.mk hn
 have HM1 := Aside0.mk hml
 have H0 := Aside0.mk hs
 have HD0 := Aside0.mk hd
 have HGE := Aside0.mk hge
 subst hn
 clear hs hsm hfu hd hge
 obtain ⟨sv, hsv⟩ : ∃ sv, syncV a = sv := ⟨_, rfl⟩
 have HSV := Aside0.mk hsv
 clear hsv
 have HSAME := Aside0.mk (show Same a sv by rw [← HSV.out]; exact syncN_same a _)
 cases hdn : sv.down
 ·have HDS := Aside0.mk hdn
  have hdb : (!sv.down) = true := by rw [hdn]; rfl
  clear hdn
  have HCV := Aside0.mk (show markV (tailV sv) = checkV a by unfold checkV; rw [HSV.out, HDS.out]; rfl)
  go_enter Tryz.func65, Tryz.ntmps65
  go_wp2_with (first
   | (go_at_call 63; have hB := HS2.out.setb 0 rfl 7 (.int .i64 sv.seq) (cs' := #[.int .i64 (tailV sv).id, .int .i64 (tailV sv).gn, .int .i64 (tailV sv).gs, .slice (some ⟨hh, 0, none⟩) a.mems.length c, .int .i64 (tailV sv).lost, .int .i64 (tailV sv).built, .int .i64 (tailV sv).seq, .int .i64 (tailV sv).tail, .int .i64 (tailV sv).gen, vd, .int .i64 (tailV sv).fuse, .bool (tailV sv).down, .bool (tailV sv).broken]) rfl; simp only [List.set_cons_zero] at hB; refine (c_specMarkF (a := tailV sv) hB HSAME.out.len.symm (by have h1 := HSAME.out.len; have := HM1.out; simp only [tailV]; omega) HDS.out (by rw [← HSV.out]; exact syncV_fuse HFU.out) (by rw [← HSV.out]; exact syncV_small HSM.out) (by have h1 := HSAME.out.gen; have := HGE.out; simp only [tailV]; omega)).mono ?_; rw [HCV.out]; rintro e w6 ⟨F6, rfl, hs6⟩; have HS6 := Aside0.mk hs6; clear hs6 hB)
   | (go_at_call 60; refine (c_specSyncF H0.out rfl HM1.out HFU.out HSM.out).mono ?_; rw [HSV.out]; rintro e w2 ⟨F2, rfl, hs2⟩; have HS2 := Aside0.mk hs2; clear hs2; obtain ⟨k0, k1, k2, k3, k4, k5, k6, k7, k8, k9, k10, k11, k12⟩ := thirteen (HS2.out.get 0 rfl); rw [HDS.out] at k11; have gz := blk_frozen (HS2.out.get 0 rfl))
   | fail)
  first | go_end0 | ((try simp only [Exit.inBlock, Exit.then]); refine bodyPost_ret (results_none rfl _ _ _) rfl ?_)
  first | exact ⟨_, rfl, HS6.out⟩ | exact ⟨rfl, _, HS6.out⟩
 ·have HDS := Aside0.mk hdn
  have hdb : (!sv.down) = false := by rw [hdn]; rfl
  clear hdn
  have HCV := Aside0.mk (show checkV a = sv by unfold checkV; rw [HSV.out, HDS.out]; rfl)
  go_enter Tryz.func65, Tryz.ntmps65
  go_wp2_with (first
   | (go_at_call 60; refine (c_specSyncF H0.out rfl HM1.out HFU.out HSM.out).mono ?_; rw [HSV.out]; rintro e w2 ⟨F2, rfl, hs2⟩; have HS2 := Aside0.mk hs2; clear hs2; obtain ⟨k0, k1, k2, k3, k4, k5, k6, k7, k8, k9, k10, k11, k12⟩ := thirteen (HS2.out.get 0 rfl); rw [HDS.out] at k11; have gz := blk_frozen (HS2.out.get 0 rfl))
   | fail)
  first | go_end0 | ((try simp only [Exit.inBlock, Exit.then]); refine bodyPost_ret (results_none rfl _ _ _) rfl ?_)
  rw [HCV.out]
  first | exact ⟨_, rfl, HS2.out⟩ | exact ⟨rfl, _, HS2.out⟩
set_option maxHeartbeats 8000000 in
set_option maxRecDepth 100000 in
theorem c_markable {w : World} {v : Value} {a : ArrV} (h : ArrR w v a) (hsm : SmallA a) :
  Calls Tryz.prog 61 #[v] w fun e w' => e = .returned (.bool (arrB a && (!a.down && decide (a.gen < 60000)))) ∧ Below w.heap.size w w' := by
 have H := Aside0.mk h
 have HSA := Aside0.mk hsm
 obtain ⟨vm, vd, rfl, r1, r2⟩ := h
 have HI := Aside0.mk ((Sep.start w []).alloc (g := w.heap.size) rfl (arrC a vm vd) 34)
 clear r1 r2 hsm
 simp only [arrC] at *
 obtain ⟨k0, k1, k2, k3, k4, k5, k6, k7, k8, k9, k10, k11, k12⟩ := thirteen (HI.out.get 0 rfl)
 by_cases hA : arrB a = true
 ·have HA := Aside0.mk hA
  clear hA
  by_cases hdn : a.down = false
  ·have HDN := Aside0.mk hdn
   have hdb : (!a.down) = true := by rw [hdn]; rfl
   clear hdn
   go_enter Tryz.func61, Tryz.ntmps61
   go_wp2_with (first
    | (go_at_call 36; refine (c_implArrOk (ArrR_below H.out HI.out.toBelow) HSA.out).mono ?_; rw [HA.out]; rintro e w4 ⟨rfl, hb⟩; have HS4 := Aside0.mk (HI.out.below hb); clear hb k0 k1 k2 k3 k4 k5 k6 k7 k8 k9 k10 k11 k12; obtain ⟨k0, k1, k2, k3, k4, k5, k6, k7, k8, k9, k10, k11, k12⟩ := thirteen (HS4.out.get 0 rfl))
    | fail)
   go_ret
   rw [HA.out, HDN.out]
   exact ⟨rfl, HS4.out.toBelow⟩
  ·have HDN := Aside0.mk (show a.down = true by simpa using hdn)
   have hdb : (!a.down) = false := by rw [HDN.out]; rfl
   clear hdn
   go_enter Tryz.func61, Tryz.ntmps61
   go_wp2_with (first
    | (go_at_call 36; refine (c_implArrOk (ArrR_below H.out HI.out.toBelow) HSA.out).mono ?_; rw [HA.out]; rintro e w4 ⟨rfl, hb⟩; have HS4 := Aside0.mk (HI.out.below hb); clear hb k0 k1 k2 k3 k4 k5 k6 k7 k8 k9 k10 k11 k12; obtain ⟨k0, k1, k2, k3, k4, k5, k6, k7, k8, k9, k10, k11, k12⟩ := thirteen (HS4.out.get 0 rfl))
    | fail)
   go_ret
   rw [HA.out, HDN.out]
   exact ⟨rfl, HS4.out.toBelow⟩
 ·have HA := Aside0.mk (show arrB a = false by simpa using hA)
  clear hA
  go_enter Tryz.func61, Tryz.ntmps61
  go_wp2_with (first
   | (go_at_call 36; refine (c_implArrOk (ArrR_below H.out HI.out.toBelow) HSA.out).mono ?_; rw [HA.out]; rintro e w4 ⟨rfl, hb⟩; have HS4 := Aside0.mk (HI.out.below hb); clear hb k0 k1 k2 k3 k4 k5 k6 k7 k8 k9 k10 k11 k12; obtain ⟨k0, k1, k2, k3, k4, k5, k6, k7, k8, k9, k10, k11, k12⟩ := thirteen (HS4.out.get 0 rfl))
   | fail)
  go_ret
  rw [HA.out]
  exact ⟨rfl, HS4.out.toBelow⟩
end AMarkF
end Go.Proofs.YtggmifnblcjdfaaGreat
