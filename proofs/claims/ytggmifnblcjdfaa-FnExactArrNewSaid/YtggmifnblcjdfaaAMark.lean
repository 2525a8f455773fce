/- An array marked, and what marks it holds. -/
import Derived.Test.YtggmifnblcjdfaaAHole
import Derived.Test.YtggmifnblcjdfaaAArr
namespace Go.Proofs.Ytggmifnblcjdfaa.AMark
open Go.RowKit Go.Proofs.YtggmifnblcjdfaaW.PrintWords Go.Proofs.Ytggmifnblcjdfaa.Fp Go.Proofs.Ytggmifnblcjdfaa.MInt Go.Proofs.Ytggmifnblcjdfaa.MKinds Go.Proofs.Ytggmifnblcjdfaa.MRead Go.Proofs.Ytggmifnblcjdfaa.MMake Go.Proofs.Ytggmifnblcjdfaa.MPut Go.Proofs.Ytggmifnblcjdfaa.MHeld Go.Proofs.Ytggmifnblcjdfaa.MMark Go.Proofs.Ytggmifnblcjdfaa.Sep Go.Proofs.Ytggmifnblcjdfaa.AKinds Go.Proofs.Ytggmifnblcjdfaa.AEnt Go.Proofs.Ytggmifnblcjdfaa.AHole
set_option linter.unusedVariables false
set_option linter.unusedSimpArgs false
/-- A disk of an array, marked. -/
def tot1 (m : MemV) : Nat := tot m.secs + totW m.cache + 1 + m.bad.length
def mk1 (k : Int) (m : MemV) : MemV := ⟨mkSS k m.secs, mkWrS (k + tot m.secs) m.cache, (k + tot m.secs + totW m.cache) % 3 == 0, cntL (k + tot m.secs + totW m.cache + 1) m.bad.length⟩
def totMS : List MemV → Nat
  | [] => 0
  | x :: l => tot1 x + totMS l
def mkMS : Int → List MemV → List MemV
  | _, [] => []
  | k, x :: l => mk1 k x :: mkMS (k + tot1 x) l
theorem mkMS_length (k : Int) (l : List MemV) : (mkMS k l).length = l.length := by
  induction l generalizing k with
  | nil => rfl
  | cons x l ih => simp [mkMS, ih]
theorem totMS_succ {l : List MemV} {i : Nat} {x : MemV} (h : l[i]? = some x) : totMS (l.take (i + 1)) = totMS (l.take i) + tot1 x := by
  induction l generalizing i with
  | nil => simp at h
  | cons y l ih =>
    rcases i with _ | i
    · simp at h; subst h; simp [totMS]
    · simp at h; have := ih h; simp only [List.take_succ_cons, totMS, this]; omega
theorem totMS_le {l : List MemV} (i : Nat) : totMS (l.take i) ≤ totMS l := by
  induction l generalizing i with
  | nil => simp
  | cons y l ih =>
    rcases i with _ | i
    · simp [totMS]
    · have := ih i; simp only [List.take_succ_cons, totMS]; omega
theorem mkMS_get {k : Int} {l : List MemV} {i : Nat} {x : MemV} (h : l[i]? = some x) : (mkMS k l)[i]? = some (mk1 (k + totMS (l.take i)) x) := by
  induction l generalizing i k with
  | nil => simp at h
  | cons y l ih =>
    rcases i with _ | i
    · simp at h; subst h; simp [mkMS, totMS]
    · simp at h
      have := ih (k := k + tot1 y) h
      simp only [mkMS, List.getElem?_cons_succ, this, List.take_succ_cons, totMS]
      rw [show k + (tot1 y : Int) + ((totMS (l.take i) : Nat) : Int) = k + ((tot1 y + totMS (l.take i) : Nat) : Int) by omega]
/-- The first i of A, the others of B. -/
def mixL {α : Type} (A B : List α) (i : Nat) : List α := A.take i ++ B.drop i
theorem mixL_length {α : Type} {A B : List α} (h : A.length = B.length) (i : Nat) : (mixL A B i).length = B.length := by simp [mixL]; omega
theorem mixL_get {α : Type} {A B : List α} (h : A.length = B.length) {i : Nat} (hi : i < B.length) : (mixL A B i)[i]? = B[i]? := by
  unfold mixL
  rw [List.getElem?_append_right (by simp; omega), List.length_take, Nat.min_eq_left (by omega), Nat.sub_self, List.getElem?_drop, Nat.add_zero]
theorem mixL_set {α : Type} {A B : List α} (h : A.length = B.length) {i : Nat} {a : α} (ha : A[i]? = some a) : (mixL A B i).set i a = mixL A B (i + 1) := by
  have hi : i < A.length := (List.getElem?_eq_some_iff.1 ha).1
  unfold mixL
  rw [List.drop_eq_getElem_cons (l := B) (i := i) (by omega), List.set_append_right _ _ (by rw [List.length_take]; exact Nat.min_le_left _ _), List.length_take, Nat.min_eq_left (by omega), Nat.sub_self, List.set_cons_zero]
  rw [List.take_succ_eq_append_getElem hi, List.append_assoc]
  obtain ⟨_, e⟩ := List.getElem?_eq_some_iff.1 ha
  rw [e]; rfl
theorem mixL_zero {α : Type} (A B : List α) : mixL A B 0 = B := by simp [mixL]
theorem mixL_all {α : Type} {A B : List α} (h : A.length = B.length) : mixL A B B.length = A := by
  unfold mixL
  rw [List.drop_of_length_le (by omega), List.take_of_length_le (by omega), List.append_nil]
theorem four_hole {w : World} {e : TypeId} {g cap i : Nat} {xs : List MemV} {a0 a1 a2 a3 : Value} {R : List Nat} (h : Hole oMem e g cap i xs [a0, a1, a2, a3] R w) :
    w.cell? ⟨g, i * 4, none⟩ = some a0 ∧ w.cell? ⟨g, i * 4 + 1, none⟩ = some a1 ∧ w.cell? ⟨g, i * 4 + 2, none⟩ = some a2 ∧ w.cell? ⟨g, i * 4 + 3, none⟩ = some a3 :=
  ⟨h.cell (t := 0) rfl, h.cell (t := 1) rfl, h.cell (t := 2) rfl, h.cell (t := 3) rfl⟩
theorem two_hole {w : World} {e : TypeId} {g cap i : Nat} {xs : List (Int × List Int)} {a0 a1 : Value} {R : List Nat} (h : Hole oWr e g cap i xs [a0, a1] R w) :
    w.cell? ⟨g, i * 2, none⟩ = some a0 ∧ w.cell? ⟨g, i * 2 + 1, none⟩ = some a1 :=
  ⟨h.cell (t := 0) rfl, h.cell (t := 1) rfl⟩
set_option maxHeartbeats 2000000 in
set_option maxRecDepth 100000 in
theorem c_markMemS {w : World} {v : Value} {F : List Nat} {xs : List MemV} {e : TypeId} {k : Int} (h : oMem.O e w F v xs) (hnd : F.Nodup) (h0 : 0 ≤ k) (h1 : k + totMS xs ≤ 9223372036854775807) :
    Calls Try.prog 63 #[v, .int .i64 k] w fun r w' => r = .returned (.int .i64 (k + totMS xs)) ∧ ∃ F', Upd w w' F (rw_ oMem e F' v (mkMS k xs)) := by
  have lx := RK_len (O_RK h)
  by_cases hn : 0 < xs.length
  · obtain ⟨g, cap, rfl, hg, _⟩ := O_form h hn
    have HL := Aside0.mk (mkMS_length k xs)
    have H := Aside0.mk (Sep.own (lies_row h) hnd)
    clear h hg hnd
    go_enter Try.func63, Try.ntmps63
    go_wp2
    go_loopw [1, 5] (fun v1 v5 wr => ∃ i : Nat, i ≤ xs.length ∧ v5 = .int .i64 i ∧ v1 = .int .i64 (k + totMS (xs.take i)) ∧ ∃ F', Aside0 (Sep w F wr [rw_ oMem e F' (.slice (some ⟨g, 0, none⟩) xs.length cap) (mixL (mkMS k xs) xs i)])) (fun _ v5 _ => xs.length - (intOf v5).toNat)
    case atStart => exact ⟨0, by omega, rfl, by simp [totMS], F, by rw [mixL_zero]; exact H⟩
    case round =>
      clear H
      obtain ⟨i, hi, rfl, rfl, F', HR⟩ := hrel
      by_cases hlt : i < xs.length
      · obtain ⟨x, hxi⟩ : ∃ x, xs[i]? = some x := ⟨_, List.getElem?_eq_getElem hlt⟩
        obtain ⟨hz9, A1, c1, A2, c2, A3, c3, F1, F2, F3, R, hs0⟩ := Sep.take_mem HR.out (x := x) (by rw [mixL_get HL.out hlt]; exact hxi)
        clear hz9
        have HS0 := Aside0.mk hs0
        have hml := mixL_length HL.out i
        have Hs := Aside0.mk (totMS_succ hxi)
        have hle := totMS_le (l := xs) (i + 1)
        rw [totMS_succ hxi] at hle
        have ht1 : tot1 x = tot x.secs + totW x.cache + 1 + x.bad.length := rfl
        have Hget := Aside0.mk (mkMS_get (k := k) hxi)
        have HML := Aside0.mk hml
        clear hs0 hxi HR hml
        generalize ht : totMS (xs.take i) = t at *
        have Ht := Aside0.mk ht
        clear ht
        have i0 : (0 : Int) ≤ (i : Int) := by omega
        have il : (i : Int) < (xs.length : Int) := by omega
        obtain ⟨m0, m1, m2, m3⟩ := four_hole (HS0.out.get 3 rfl)
        go_wp2_with (first
          | (go_at_call 100; refine (c_markIntSS (show oSec.O 44 wr F1 _ x.secs from HS0.out.get 0 rfl) (HS0.out.fnd 0 rfl) (by omega) (by omega)).mono ?_; rintro r w1 ⟨rfl, ho, hc⟩; have hs1 := Sep.row_upd HS0.out (xs := x.secs) 0 rfl ho hc; have HS1 := Aside0.mk hs1; clear hs1 ho hc m0 m1 m2 m3; obtain ⟨m0, m1, m2, m3⟩ := four_hole (HS1.out.get 3 rfl))
          | (go_at_call 101; refine (c_markWrS (show oWr.O 101 w1 F2 _ x.cache from HS1.out.get 1 rfl) (HS1.out.fnd 1 rfl) (by omega) (by omega)).mono ?_; rintro r w2 ⟨rfl, ⟨F2', ho, hn2, hf2⟩, hc⟩; have hs2 := Sep.row_upd' HS1.out (xs := x.cache) 1 rfl ho hn2 hf2 hc; have hs3 := Sep.hset hs2 3 rfl (t := 2) (by decide) (.bool ((k + t + tot x.secs + totW x.cache) % 3 == 0)) rfl; have HS2 := Aside0.mk hs2; have HS3 := Aside0.mk hs3; have fz := Hole.frozen (HS2.out.get 3 rfl) (i * 4 + 2); clear hs2 hs3 ho hc hn2 hf2 m0 m1 m2 m3; obtain ⟨m0, m1, m2, m3⟩ := four_hole (HS2.out.get 3 rfl))
          | (go_at_call 26; refine (c_markIntS (show (Od.int .i64).O 3 _ F3 (.slice A3 x.bad.length c3) x.bad from HS3.out.get 2 rfl) (by omega) (by omega)).mono ?_; rintro r w4 ⟨rfl, ho, hc⟩; have hs4 := Sep.row_upd HS3.out (d := oInt) (xs := x.bad) 2 rfl ho hc; have HS4 := Aside0.mk hs4; clear hs4 ho hc)
          | fail)
        go_roundw
        case rel =>
          obtain ⟨F5, h5⟩ := Sep.put_mem (mk1 (k + t) x) HS4.out
          refine ⟨i + 1, by omega, by go_num, by rw [Hs.out, ht1]; go_num, F5, ⟨?_⟩⟩
          rw [mixL_set HL.out Hget.out, HML.out] at h5
          exact h5
        case measure => simp [intOf]; omega
      · obtain rfl : i = xs.length := by omega
        rw [List.take_length]
        go_wp2
        go_ret
        have hz := HR.out
        rw [mixL_all HL.out] at hz
        exact ⟨rfl, F', hz.toUpd 0 rfl⟩
  · have h2 : xs = [] := List.eq_nil_of_length_eq_zero (by omega)
    subst h2
    have H := Aside0.mk (Sep.own (lies_row h) hnd)
    obtain ⟨A, ca, rfl, _, _⟩ := O_RK h
    clear h hnd
    go_enter Try.func63, Try.ntmps63
    go_wp2
    refine wp_loop_rounds 1 ?_
    rw [rounds_succ]
    go_wp2
    go_ret
    exact ⟨by simp [totMS], F, H.out.toUpd 0 rfl⟩
set_option maxHeartbeats 2000000 in
set_option maxRecDepth 100000 in
theorem c_markEntS {w : World} {v : Value} {F : List Nat} {xs : List (Int × List Int)} {e : TypeId} {k : Int} (h : oWr.O e w F v xs) (hnd : F.Nodup) (h0 : 0 ≤ k) (h1 : k + totW xs ≤ 9223372036854775807) :
    Calls Try.prog 64 #[v, .int .i64 k] w fun r w' => r = .returned (.int .i64 (k + totW xs)) ∧ ∃ F', Upd w w' F (rw_ oWr e F' v (mkWrS k xs)) := by
  have lx := RK_len (O_RK h)
  by_cases hn : 0 < xs.length
  · obtain ⟨g, cap, rfl, hg, _⟩ := O_form h hn
    have HL := Aside0.mk (mkWrS_length k xs)
    have H := Aside0.mk (Sep.own (lies_row h) hnd)
    clear h hg hnd
    go_enter Try.func64, Try.ntmps64
    go_wp2
    go_loopw [1, 5] (fun v1 v5 wr => ∃ i : Nat, i ≤ xs.length ∧ v5 = .int .i64 i ∧ v1 = .int .i64 (k + totW (xs.take i)) ∧ ∃ F', Aside0 (Sep w F wr [rw_ oWr e F' (.slice (some ⟨g, 0, none⟩) xs.length cap) (mixL (mkWrS k xs) xs i)])) (fun _ v5 _ => xs.length - (intOf v5).toNat)
    case atStart => exact ⟨0, by omega, rfl, by simp [totW], F, by rw [mixL_zero]; exact H⟩
    case round =>
      clear H
      obtain ⟨i, hi, rfl, rfl, F', HR⟩ := hrel
      by_cases hlt : i < xs.length
      · obtain ⟨x, hxi⟩ : ∃ x, xs[i]? = some x := ⟨_, List.getElem?_eq_getElem hlt⟩
        obtain ⟨hz9, A1, c1, F1, R, hs0⟩ := Sep.take_ent HR.out (x := x) (by rw [mixL_get HL.out hlt]; exact hxi)
        clear hz9
        have hml := mixL_length HL.out i
        have Hs := Aside0.mk (totW_succ hxi)
        have hle := totW_le (l := xs) (i + 1)
        rw [totW_succ hxi] at hle
        have Hget := Aside0.mk (mkWrS_get (k := k) hxi)
        have HML := Aside0.mk hml
        clear hxi HR hml
        generalize ht : totW (xs.take i) = t at *
        have Ht := Aside0.mk ht
        clear ht
        have hs1 := Sep.hset hs0 1 rfl (t := 0) (by decide) (.int .i64 (k + t)) rfl
        have HS0 := Aside0.mk hs0
        have HS1 := Aside0.mk hs1
        clear hs0 hs1
        have i0 : (0 : Int) ≤ (i : Int) := by omega
        have il : (i : Int) < (xs.length : Int) := by omega
        obtain ⟨m0, m1⟩ := two_hole (HS0.out.get 1 rfl)
        have fz := Hole.frozen (HS0.out.get 1 rfl) (i * 2)
        go_wp2_with (first
          | (go_at_call 26; refine (c_markIntS (show (Od.int .i64).O 3 _ F1 (.slice A1 x.2.length c1) x.2 from HS1.out.get 0 rfl) (by omega) (by omega)).mono ?_; rintro r w4 ⟨rfl, ho, hc⟩; have hs4 := Sep.row_upd HS1.out (d := oInt) (xs := x.2) 0 rfl ho hc; have HS4 := Aside0.mk hs4; clear hs4 ho hc)
          | fail)
        go_roundw
        case rel =>
          obtain ⟨F5, h5⟩ := Sep.put_ent (k + t, cntL (k + t + 1) x.2.length) HS4.out
          refine ⟨i + 1, by omega, by go_num, by rw [Hs.out]; go_num, F5, ⟨?_⟩⟩
          rw [mixL_set HL.out Hget.out, HML.out] at h5
          exact h5
        case measure => simp [intOf]; omega
      · obtain rfl : i = xs.length := by omega
        rw [List.take_length]
        go_wp2
        go_ret
        have hz := HR.out
        rw [mixL_all HL.out] at hz
        exact ⟨rfl, F', hz.toUpd 0 rfl⟩
  · have h2 : xs = [] := List.eq_nil_of_length_eq_zero (by omega)
    subst h2
    have H := Aside0.mk (Sep.own (lies_row h) hnd)
    obtain ⟨A, ca, rfl, _, _⟩ := O_RK h
    clear h hnd
    go_enter Try.func64, Try.ntmps64
    go_wp2
    refine wp_loop_rounds 1 ?_
    rw [rounds_succ]
    go_wp2
    go_ret
    exact ⟨by simp [totW], F, H.out.toUpd 0 rfl⟩
set_option maxHeartbeats 2000000 in
set_option maxRecDepth 100000 in
theorem c_heldMemS {w : World} {v : Value} {l : List MemV} {k : Int} (h : RK kMem w v (mkMS k l)) (h0 : 0 ≤ k) (h1 : k + totMS l ≤ 9223372036854775807) :
    Calls Try.prog 65 #[v, .int .i64 k] w fun e w' => e = .returned (.int .i64 (k + totMS l)) ∧ ∃ n, w' = w.drewN n := by
  have lx := RK_len h
  rw [mkMS_length] at lx
  by_cases hn : 0 < l.length
  · obtain ⟨ad, cap, rfl, hc⟩ := RK_mems h (by rw [mkMS_length]; exact hn)
    rw [mkMS_length]
    have Hc := Aside0.mk hc
    clear h hc
    go_enter Try.func65, Try.ntmps65
    go_wp2
    go_loopw [1, 5] (fun v1 v5 wr => ∃ i : Nat, i ≤ l.length ∧ v5 = .int .i64 i ∧ v1 = .int .i64 (k + totMS (l.take i)) ∧ Aside0 (Dr w wr)) (fun _ v5 _ => l.length - (intOf v5).toNat)
    case atStart => exact ⟨0, by omega, rfl, by simp [totMS], ⟨Dr.refl _⟩⟩
    case round =>
      obtain ⟨i, hi, rfl, rfl, hq⟩ := hrel
      by_cases hlt : i < l.length
      · obtain ⟨x, hxi⟩ : ∃ x, l[i]? = some x := ⟨_, List.getElem?_eq_getElem hlt⟩
        obtain ⟨B1, d1, B2, d2, B3, d3, x0, x1, x2, x3, hM⟩ := Hc.out i _ (mkMS_get hxi)
        obtain ⟨s, cc, b, hv, r1, r2, r3⟩ := hM
        simp only [Value.agg.injEq] at hv
        have hv := congrArg Array.toList hv
        simp only [List.cons.injEq, and_true] at hv
        obtain ⟨e1, e2, _, e3⟩ := hv
        subst e1 e2 e3
        have HN := Aside0.mk hxi
        have hs := totMS_succ hxi
        have hle := totMS_le (l := l) (i + 1)
        rw [hs] at hle
        have ht1 : tot1 x = tot x.secs + totW x.cache + 1 + x.bad.length := rfl
        have Hs := Aside0.mk hs
        clear hxi hs
        generalize ht : totMS (l.take i) = t at *
        have Ht := Aside0.mk ht
        clear ht
        simp only [mk1, mkSS_length, mkWrS_length, cntL_length] at x0 x1 x2 x3 r1 r2 r3
        have R1 := Aside0.mk r1
        have R2 := Aside0.mk r2
        have R3 := Aside0.mk r3
        clear r1 r2 r3
        have hXX : ∀ W, Dr w W → (W.cell? (ad.add (i * 4)) = some (.slice B1 x.secs.length d1) ∧ W.cell? ⟨(ad.add (i * 4)).block, (ad.add (i * 4)).off + 1, none⟩ = some (.slice B2 x.cache.length d2) ∧ W.cell? ⟨(ad.add (i * 4)).block, (ad.add (i * 4)).off + 2, none⟩ = some (.bool ((k + t + tot x.secs + totW x.cache) % 3 == 0)) ∧ W.cell? ⟨(ad.add (i * 4)).block, (ad.add (i * 4)).off + 3, none⟩ = some (.slice B3 x.bad.length d3)) := fun W hW => ⟨hW.cell x0, hW.cell x1, hW.cell x2, hW.cell x3⟩
        have XX := Aside0.mk hXX
        clear hXX x0 x1 x2 x3
        obtain ⟨x0, x1, x2, x3⟩ := XX.out _ hq.out
        have i0 : (0 : Int) ≤ (i : Int) := by omega
        have il : (i : Int) < (l.length : Int) := by omega
        have p1 : ¬ (k + (t : Int) + (tot x.secs : Int) < 0) := by omega
        have p2 : ¬ (k + (t : Int) + (tot x.secs : Int) + (totW x.cache : Int) < 0) := by omega
        have p3 : ¬ (k + (t : Int) + (tot x.secs : Int) + (totW x.cache : Int) + 1 + (x.bad.length : Int) < 0) := by omega
        have heq : (((k + (t : Int) + (tot x.secs : Int) + (totW x.cache : Int)) % 3 == 0) != ((k + (t : Int) + (tot x.secs : Int) + (totW x.cache : Int)) % 3 == 0)) = false := by simp
        go_wp2_with (first
          | (go_at_call 102; refine (c_heldIntSS (hq.out.rk R1.out) (by omega) (by omega)).mono ?_; rintro e w1 ⟨rfl, hq1⟩; have Hq1 := Aside0.mk (hq.out.trans hq1); clear hq1 x0 x1 x2 x3; obtain ⟨x0, x1, x2, x3⟩ := XX.out _ Hq1.out)
          | (go_at_call 103; refine (c_heldWrS (Hq1.out.rk R2.out) (by omega) (by omega)).mono ?_; rintro e w2 ⟨rfl, hq2⟩; have Hq2 := Aside0.mk (Hq1.out.trans hq2); clear hq2 x0 x1 x2 x3; obtain ⟨x0, x1, x2, x3⟩ := XX.out _ Hq2.out)
          | (go_at_call 27; refine (c_heldIntS (Hq2.out.rk R3.out) (by omega) (by rw [cntL_length]; omega)).mono ?_; rw [held_cnt]; rintro e w3 ⟨rfl, hq3⟩; have Hq3 := Aside0.mk (Hq2.out.trans hq3); clear hq3)
          | fail)
        go_roundw
        case rel => exact ⟨i + 1, by omega, by go_num, by rw [Hs.out, ht1]; go_num, Hq3⟩
        case measure => simp [intOf]; omega
      · obtain rfl : i = l.length := by omega
        rw [List.take_length]
        go_wp2
        go_ret
        exact ⟨rfl, hq.out⟩
  · have h2 : l = [] := List.eq_nil_of_length_eq_zero (by omega)
    subst h2
    obtain ⟨A, ca, rfl, _, _⟩ := h
    go_enter Try.func65, Try.ntmps65
    go_wp2
    refine wp_loop_rounds 1 ?_
    rw [rounds_succ]
    go_wp2
    go_ret
    exact ⟨by simp [totMS], 0, rfl⟩
set_option maxHeartbeats 2000000 in
theorem c_markArr {w : World} {v : Value} {F : List Nat} {a : ArrV} {k : Int} (h : ArrO w F v a) (hnd : F.Nodup) (h0 : 0 ≤ k) (h1 : k + totMS a.mems + totW a.dirty ≤ 9223372036854775807) :
    Calls Try.prog 21 #[v, .int .i64 k] w fun r w' => r = .returned (.int .i64 (k + totMS a.mems + totW a.dirty)) ∧ ∃ F', Upd w w' F (ar F' v ⟨a.id, a.gn, a.gs, mkMS k a.mems, a.lost, a.built, a.seq, a.tail, a.gen, mkWrS (k + totMS a.mems) a.dirty, a.fuse, a.down, a.broken⟩) := by
  have hs := Sep.own (lies_arr h) hnd
  obtain ⟨A1, c1, A2, c2, F1, F2, rfl, hs2⟩ := Sep.ofArr hs
  have H0 := Aside0.mk (hs2.alloc (g := w.heap.size) rfl (arrC a (.slice A1 a.mems.length c1) (.slice A2 a.dirty.length c2)) 34)
  clear hs hs2 h
  obtain ⟨id, gn, gs, mems, lost, built, seq, tail, gen, dirty, fuse, down, broken⟩ := a
  simp only [arrC, ar] at *
  obtain ⟨k0, k1, k2, k3, k4, k5, k6, k7, k8, k9, k10, k11, k12⟩ := thirteen (H0.out.get 0 rfl)
  go_enter Try.func21, Try.ntmps21
  go_wp2_with (first
    | (go_at_call 63; refine (c_markMemS (show oMem.O 57 _ F1 (.slice A1 mems.length c1) mems from H0.out.get 1 rfl) (H0.out.fnd 1 rfl) h0 (by omega)).mono ?_; rintro r w1 ⟨rfl, G1, hu⟩; have hs1 := H0.out.upd (r := rw_ oMem 57 F1 (.slice A1 mems.length c1) mems) 1 rfl hu; have HS1 := Aside0.mk hs1; clear hs1 hu k0 k1 k2 k3 k4 k5 k6 k7 k8 k9 k10 k11 k12; obtain ⟨k0, k1, k2, k3, k4, k5, k6, k7, k8, k9, k10, k11, k12⟩ := thirteen (HS1.out.get 0 rfl))
    | (go_at_call 64; refine (c_markEntS (show oWr.O 94 _ F2 (.slice A2 dirty.length c2) dirty from HS1.out.get 2 rfl) (HS1.out.fnd 2 rfl) (by omega) (by omega)).mono ?_; rintro r w2 ⟨rfl, G2, hu⟩; have hs2 := HS1.out.upd (r := rw_ oWr 94 F2 (.slice A2 dirty.length c2) dirty) 2 rfl hu; have HS2 := Aside0.mk hs2; clear hs2 hu)
    | fail)
  go_ret
  have hB := HS2.out.sel [1, 2] (by decide) (by simp)
  simp only [List.map_cons, List.map_nil, pick, List.getD_cons_succ, List.getD_cons_zero, List.set_cons_zero, List.set_cons_succ, List.eraseIdx_cons_zero, List.eraseIdx_cons_succ, List.setIfInBounds_toArray] at hB
  exact ⟨rfl, _, (Sep.toArr (a := ⟨id, gn, gs, mkMS k mems, lost, built, seq, tail, gen, mkWrS (k + totMS mems) dirty, fuse, down, broken⟩) hB).toUpd 0 rfl⟩
set_option maxHeartbeats 2000000 in
theorem c_heldArr {w : World} {v : Value} {a : ArrV} {k : Int} {ms : List MemV} {ds : List (Int × List Int)} (h : ArrR w v a) (hm : a.mems = mkMS k ms) (hd : a.dirty = mkWrS (k + totMS ms) ds) (h0 : 0 ≤ k) (h1 : k + totMS ms + totW ds ≤ 9223372036854775807) :
    Calls Try.prog 22 #[v, .int .i64 k] w fun e w' => e = .returned (.int .i64 (k + totMS ms + totW ds)) ∧ Below w.heap.size w w' := by
  obtain ⟨vm, vd, rfl, r1, r2⟩ := h
  obtain ⟨id, gn, gs, mems, lost, built, seq, tail, gen, dirty, fuse, down, broken⟩ := a
  simp only at hm hd
  subst hm hd
  have R1 := Aside0.mk r1
  have R2 := Aside0.mk r2
  have H0 := Aside0.mk ((Sep.start w []).alloc (g := w.heap.size) rfl (arrC ⟨id, gn, gs, mkMS k ms, lost, built, seq, tail, gen, mkWrS (k + totMS ms) ds, fuse, down, broken⟩ vm vd) 34)
  clear r1 r2
  simp only [arrC] at *
  have p1 : ¬ (k + (totMS ms : Int) < 0) := by omega
  have p2 : ¬ (k + (totMS ms : Int) + (totW ds : Int) < 0) := by omega
  obtain ⟨k0, k1, k2, k3, k4, k5, k6, k7, k8, k9, k10, k11, k12⟩ := thirteen (H0.out.get 0 rfl)
  go_enter Try.func22, Try.ntmps22
  go_wp2_with (first
    | (go_at_call 65; refine (c_heldMemS (H0.out.rk R1.out) h0 (by omega)).mono ?_; rintro e w1 ⟨rfl, hq⟩; have HS1 := Aside0.mk (H0.out.dr hq); clear hq k0 k1 k2 k3 k4 k5 k6 k7 k8 k9 k10 k11 k12; obtain ⟨k0, k1, k2, k3, k4, k5, k6, k7, k8, k9, k10, k11, k12⟩ := thirteen (HS1.out.get 0 rfl))
    | (go_at_call 66; refine (c_heldEntS (HS1.out.rk R2.out) (by omega) (by omega)).mono ?_; rintro e w2 ⟨rfl, hq⟩; have HS2 := Aside0.mk (HS1.out.dr hq); clear hq)
    | fail)
  go_ret
  exact ⟨rfl, HS2.out.toBelow⟩
end Go.Proofs.Ytggmifnblcjdfaa.AMark
