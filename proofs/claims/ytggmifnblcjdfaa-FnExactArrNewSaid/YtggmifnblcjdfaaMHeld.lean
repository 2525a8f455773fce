/- Contracts of held.. and sz.. over caches and disks. -/
import Derived.Test.YtggmifnblcjdfaaMRead
namespace Go.Proofs.Ytggmifnblcjdfaa.MHeld
open Go.RowKit Go.Proofs.YtggmifnblcjdfaaW.PrintWords Go.Proofs.Ytggmifnblcjdfaa.Fp Go.Proofs.Ytggmifnblcjdfaa.MInt Go.Proofs.Ytggmifnblcjdfaa.MKinds Go.Proofs.Ytggmifnblcjdfaa.MRead
set_option linter.unusedVariables false
set_option linter.unusedSimpArgs false
/-- Entries: how many numbers. -/
def totW : List (Int × List Int) → Nat
  | [] => 0
  | x :: l => 1 + x.2.length + totW l
def mkWrS : Int → List (Int × List Int) → List (Int × List Int)
  | _, [] => []
  | k, x :: l => (k, cntL (k + 1) x.2.length) :: mkWrS (k + 1 + x.2.length) l
theorem mkWrS_length (k : Int) (l : List (Int × List Int)) : (mkWrS k l).length = l.length := by
  induction l generalizing k with
  | nil => rfl
  | cons x l ih => simp [mkWrS, ih]
theorem totW_succ {l : List (Int × List Int)} {i : Nat} {x : Int × List Int} (h : l[i]? = some x) : totW (l.take (i + 1)) = totW (l.take i) + (1 + x.2.length) := by
  induction l generalizing i with
  | nil => simp at h
  | cons y l ih =>
    rcases i with _ | i
    · simp at h; subst h; simp [totW]
    · simp at h; have := ih h; simp only [List.take_succ_cons, totW, this]; omega
theorem totW_le {l : List (Int × List Int)} (i : Nat) : totW (l.take i) ≤ totW l := by
  induction l generalizing i with
  | nil => simp
  | cons y l ih =>
    rcases i with _ | i
    · simp [totW]
    · have := ih i; simp only [List.take_succ_cons, totW]; omega
theorem mkWrS_get {k : Int} {l : List (Int × List Int)} {i : Nat} {x : Int × List Int} (h : l[i]? = some x) : (mkWrS k l)[i]? = some (k + totW (l.take i), cntL (k + totW (l.take i) + 1) x.2.length) := by
  induction l generalizing i k with
  | nil => simp at h
  | cons y l ih =>
    rcases i with _ | i
    · simp at h; subst h; simp [mkWrS, totW]
    · simp at h
      have := ih (k := k + 1 + y.2.length) h
      simp only [mkWrS, List.getElem?_cons_succ, this, List.take_succ_cons, totW]
      rw [show k + 1 + (y.2.length : Int) + ((totW (l.take i) : Nat) : Int) = k + ((1 + y.2.length + totW (l.take i) : Nat) : Int) by omega]
def totM (m : MemV) : Nat := tot m.secs + totW m.cache + m.bad.length
def mkMem (k : Int) (m : MemV) : MemV := ⟨mkSS k m.secs, mkWrS (k + tot m.secs) m.cache, m.failed, cntL (k + tot m.secs + totW m.cache) m.bad.length⟩
/-- left, less n: -1 where that is below 0. -/
def sub0 (left : Int) (n : Nat) : Int := if left - n < 0 then -1 else left - n
theorem sub0_neg {left : Int} {n : Nat} (h : left - n < 0) : sub0 left n = -1 := if_pos h
theorem sub0_pos {left : Int} {n : Nat} (h : ¬ left - n < 0) : sub0 left n = left - n := if_neg h
def szSS (l : List (List Int)) : Nat := l.length + tot l
def sumW : List (Int × List Int) → Nat
  | [] => 0
  | x :: l => x.2.length + sumW l
theorem sumW_succ {l : List (Int × List Int)} {i : Nat} {x : Int × List Int} (h : l[i]? = some x) : sumW (l.take (i + 1)) = sumW (l.take i) + x.2.length := by
  induction l generalizing i with
  | nil => simp at h
  | cons y l ih =>
    rcases i with _ | i
    · simp at h; subst h; simp [sumW]
    · simp at h; have := ih h; simp only [List.take_succ_cons, sumW, this]; omega
theorem sumW_le {l : List (Int × List Int)} (i : Nat) : sumW (l.take i) ≤ sumW l := by
  induction l generalizing i with
  | nil => simp
  | cons y l ih =>
    rcases i with _ | i
    · simp [sumW]
    · have := ih i; simp only [List.take_succ_cons, sumW]; omega
theorem totW_sum (l : List (Int × List Int)) : totW l = l.length + sumW l := by
  induction l with
  | nil => rfl
  | cons x l ih => simp only [totW, sumW, ih, List.length_cons]; omega
def szM (m : MemV) : Nat := szSS m.secs + totW m.cache + m.bad.length
set_option maxHeartbeats 1000000 in
set_option maxRecDepth 100000 in
theorem c_heldWrS {w : World} {v : Value} {l : List (Int × List Int)} {k : Int} (h : RK kWr w v (mkWrS k l)) (h0 : 0 ≤ k) (h1 : k + totW l ≤ 9223372036854775807) :
    Calls Try.prog 103 #[v, .int .i64 k] w fun e w' => e = .returned (.int .i64 (k + totW l)) ∧ ∃ n, w' = w.drewN n := by
  have lx := RK_len h
  rw [mkWrS_length] at lx
  by_cases hn : 0 < l.length
  · obtain ⟨ad, cap, rfl, hc⟩ := RK_wrs h (by rw [mkWrS_length]; exact hn)
    rw [mkWrS_length]
    have Hc := Aside0.mk hc
    clear h hc
    go_enter Try.func103, Try.ntmps103
    go_wp2
    go_loopw [1, 5] (fun v1 v5 wr => ∃ i : Nat, i ≤ l.length ∧ v5 = .int .i64 i ∧ v1 = .int .i64 (k + totW (l.take i)) ∧ Aside0 (Dr w wr)) (fun _ v5 _ => l.length - (intOf v5).toNat)
    case atStart => exact ⟨0, by omega, rfl, by simp [totW], ⟨Dr.refl _⟩⟩
    case round =>
      obtain ⟨i, hi, rfl, rfl, hq⟩ := hrel
      by_cases hlt : i < l.length
      · obtain ⟨x, hxi⟩ : ∃ x, l[i]? = some x := ⟨_, List.getElem?_eq_getElem hlt⟩
        obtain ⟨u, cn, cu, ru⟩ := Hc.out i _ (mkWrS_get hxi)
        replace cn := hq.out.cell cn
        replace cu := hq.out.cell cu
        have Ru := Aside0.mk (hq.out.rk ru)
        have hs := totW_succ hxi
        have hle := totW_le (l := l) (i + 1)
        rw [hs] at hle
        have Hs := Aside0.mk hs
        clear ru hxi hs
        generalize ht : totW (l.take i) = t at *
        have Ht := Aside0.mk ht
        clear ht
        have hpos : ¬ (k + (t : Int) + 1 + (x.2.length : Int) < 0) := by omega
        have heq : (k + (t : Int) != k + (t : Int)) = false := by simp
        go_wp2_with (first | (go_at_call 27; refine (c_heldIntS Ru.out (by omega) (by rw [cntL_length]; omega)).mono ?_; rw [held_cnt]; rintro e w1 ⟨rfl, hq2⟩; have Hq2 := Aside0.mk (hq.out.trans hq2); clear hq2) | fail)
        go_roundw
        case rel => exact ⟨i + 1, by omega, by go_num, by rw [Hs.out]; go_num, Hq2⟩
        case measure => simp [intOf]; omega
      · obtain rfl : i = l.length := by omega
        rw [List.take_length]
        go_wp2
        go_ret
        exact ⟨rfl, hq.out⟩
  · have h2 : l = [] := List.eq_nil_of_length_eq_zero (by omega)
    subst h2
    obtain ⟨A, ca, rfl, _, _⟩ := h
    go_enter Try.func103, Try.ntmps103
    go_wp2
    refine wp_loop_rounds 1 ?_
    rw [rounds_succ]
    go_wp2
    go_ret
    exact ⟨by simp [totW], 0, rfl⟩
set_option maxHeartbeats 1000000 in
set_option maxRecDepth 100000 in
theorem c_szIntSS {w : World} {v : Value} {l : List (List Int)} {left : Int} (h : RK kSec w v l) (h0 : 0 ≤ left) (h1 : left ≤ 9223372036854775807) :
    Calls Try.prog 117 #[v, .int .i64 left] w fun e w' => e = .returned (.int .i64 (sub0 left (szSS l))) ∧ ∃ n, w' = w.drewN n := by
  have lx := RK_len h
  by_cases hl : left - l.length < 0
  · obtain ⟨A, cap, rfl, _⟩ := h
    go_enter Try.func117, Try.ntmps117
    go_wp2
    go_ret
    exact ⟨ret_int (by rw [sub0_neg]; unfold szSS; omega), 0, rfl⟩
  · by_cases hn : 0 < l.length
    · obtain ⟨ad, cap, rfl, hc⟩ := RK_slices h hn
      have Hc := Aside0.mk hc
      clear h hc
      go_enter Try.func117, Try.ntmps117
      go_wp2
      go_loopw [1, 5] (fun v1 v5 wr => ∃ i : Nat, i ≤ l.length ∧ v5 = .int .i64 i ∧ v1 = .int .i64 (left - l.length - tot (l.take i)) ∧ 0 ≤ left - l.length - tot (l.take i) ∧ Aside0 (Dr w wr)) (fun _ v5 _ => l.length - (intOf v5).toNat)
      case atStart => exact ⟨0, by omega, rfl, by simp [tot], by simp [tot]; omega, ⟨Dr.refl _⟩⟩
      case round =>
        obtain ⟨i, hi, rfl, rfl, hge, hq⟩ := hrel
        by_cases hlt : i < l.length
        · obtain ⟨x, hxi⟩ : ∃ x, l[i]? = some x := ⟨_, List.getElem?_eq_getElem hlt⟩
          obtain ⟨u, cu, ru⟩ := Hc.out i _ hxi
          replace cu := hq.out.cell cu
          have Ru := Aside0.mk (hq.out.rk ru)
          have hs := tot_succ hxi
          have hle := tot_le (l := l) (i + 1)
          rw [hs] at hle
          have Hs := Aside0.mk hs
          have hx9 := RK_len ru
          clear ru hxi hs
          generalize ht : tot (l.take i) = t at *
          have Ht := Aside0.mk ht
          clear ht
          by_cases hx : left - (l.length : Int) - (t : Int) - (x.length : Int) < 0
          · go_wp2_with (first | (go_at_call 119; refine (c_szIntS Ru.out (by omega) (by omega)).mono ?_; rw [if_pos hx]; rintro e w1 ⟨rfl, hq2⟩; have Hq2 := Aside0.mk (hq.out.trans hq2); clear hq2) | fail)
            go_ret
            exact ⟨ret_int (by rw [sub0_neg]; unfold szSS; omega), Hq2.out⟩
          · go_wp2_with (first | (go_at_call 119; refine (c_szIntS Ru.out (by omega) (by omega)).mono ?_; rw [if_neg hx]; rintro e w1 ⟨rfl, hq2⟩; have Hq2 := Aside0.mk (hq.out.trans hq2); clear hq2) | fail)
            go_roundw
            case rel => exact ⟨i + 1, by omega, by go_num, by rw [Hs.out]; go_num, by rw [Hs.out]; omega, Hq2⟩
            case measure => simp [intOf]; omega
        · obtain rfl : i = l.length := by omega
          rw [List.take_length] at *
          go_wp2
          go_ret
          exact ⟨ret_int (by rw [sub0_pos] <;> unfold szSS <;> omega), hq.out⟩
    · have h2 : l = [] := List.eq_nil_of_length_eq_zero (by omega)
      subst h2
      obtain ⟨A, ca, rfl, _, _⟩ := h
      go_enter Try.func117, Try.ntmps117
      go_wp2
      refine wp_loop_rounds 1 ?_
      rw [rounds_succ]
      go_wp2
      go_ret
      exact ⟨ret_int (by rw [sub0_pos] <;> simp [szSS, tot] at * <;> omega), 0, rfl⟩
set_option maxHeartbeats 1000000 in
theorem c_szWr {w : World} {n : Int} {v : Value} {xs : List Int} {left : Int} (h : RK kInt w v xs) (h0 : 0 ≤ left) (h1 : left ≤ 9223372036854775807) :
    Calls Try.prog 134 #[.agg #[.int .i64 n, v], .int .i64 left] w fun e w' => e = .returned (.int .i64 (sub0 left xs.length)) ∧ Below w.heap.size w w' := by
  have lx := RK_len h
  have H := Aside0.mk h
  clear h
  by_cases hx : left - (xs.length : Int) < 0
  · go_enter Try.func134, Try.ntmps134
    go_wp2_with (first | (go_at_call 119; refine (c_szIntS (RK_below H.out (below_alloc (Below.refl _ _) _)) h0 h1).mono ?_; rw [if_pos hx]; rintro e w1 ⟨rfl, hq⟩; have HB := Aside0.mk (below_next (below_alloc (Below.refl _ _) _) (below_drawn hq)); clear hq) | fail)
    go_ret
    exact ⟨ret_int (sub0_neg hx).symm, HB.out⟩
  · go_enter Try.func134, Try.ntmps134
    go_wp2_with (first | (go_at_call 119; refine (c_szIntS (RK_below H.out (below_alloc (Below.refl _ _) _)) h0 h1).mono ?_; rw [if_neg (by omega)]; rintro e w1 ⟨rfl, hq⟩; have HB := Aside0.mk (below_next (below_alloc (Below.refl _ _) _) (below_drawn hq)); clear hq) | fail)
    go_ret
    exact ⟨ret_int (sub0_pos (by omega)).symm, HB.out⟩
set_option maxHeartbeats 1000000 in
set_option maxRecDepth 100000 in
theorem c_szWrS {w : World} {v : Value} {l : List (Int × List Int)} {left : Int} (h : RK kWr w v l) (h0 : 0 ≤ left) (h1 : left ≤ 9223372036854775807) :
    Calls Try.prog 118 #[v, .int .i64 left] w fun e w' => e = .returned (.int .i64 (sub0 left (totW l))) ∧ Below w.heap.size w w' := by
  have lx := RK_len h
  by_cases hl : left - l.length < 0
  · obtain ⟨A, cap, rfl, _⟩ := h
    go_enter Try.func118, Try.ntmps118
    go_wp2
    go_ret
    exact ⟨ret_int (by have := totW_sum l; rw [sub0_neg]; omega), Below.refl _ _⟩
  · by_cases hn : 0 < l.length
    · obtain ⟨ad, cap, rfl, hc⟩ := RK_wrs h hn
      have Hc := Aside0.mk hc
      clear h hc
      go_enter Try.func118, Try.ntmps118
      go_wp2
      go_loopw [1, 5] (fun v1 v5 wr => ∃ i : Nat, i ≤ l.length ∧ v5 = .int .i64 i ∧ v1 = .int .i64 (left - l.length - sumW (l.take i)) ∧ 0 ≤ left - l.length - sumW (l.take i) ∧ Aside0 (Below w.heap.size w wr)) (fun _ v5 _ => l.length - (intOf v5).toNat)
      case atStart => exact ⟨0, by omega, rfl, by simp [sumW], by simp [sumW]; omega, ⟨Below.refl _ _⟩⟩
      case round =>
        obtain ⟨i, hi, rfl, rfl, hge, hq⟩ := hrel
        by_cases hlt : i < l.length
        · obtain ⟨x, hxi⟩ : ∃ x, l[i]? = some x := ⟨_, List.getElem?_eq_getElem hlt⟩
          obtain ⟨u, cn, cu, ru⟩ := Hc.out i _ hxi
          replace cn := (hq.out.cell (lt_of_cell cn)).trans cn
          replace cu := (hq.out.cell (lt_of_cell cu)).trans cu
          have Ru := Aside0.mk (RK_below ru hq.out)
          have hs := sumW_succ hxi
          have hle := sumW_le (l := l) (i + 1)
          rw [hs] at hle
          have Hs := Aside0.mk hs
          have hx9 := RK_len ru
          clear ru hxi hs
          generalize ht : sumW (l.take i) = t at *
          have Ht := Aside0.mk ht
          clear ht
          by_cases hx : left - (l.length : Int) - (t : Int) - (x.2.length : Int) < 0
          · go_wp2_with (first | (go_at_call 134; refine (c_szWr Ru.out (by omega) (by omega)).mono ?_; rw [sub0_neg hx]; rintro e w1 ⟨rfl, hq2⟩; have Hq2 := Aside0.mk (below_next hq.out hq2); clear hq2) | fail)
            go_ret
            exact ⟨ret_int (by rw [sub0_neg]; have := totW_sum l; omega), Hq2.out⟩
          · go_wp2_with (first | (go_at_call 134; refine (c_szWr Ru.out (by omega) (by omega)).mono ?_; rw [sub0_pos (by omega)]; rintro e w1 ⟨rfl, hq2⟩; have Hq2 := Aside0.mk (below_next hq.out hq2); clear hq2) | fail)
            go_roundw
            case rel => exact ⟨i + 1, by omega, by go_num, by rw [Hs.out]; go_num, by rw [Hs.out]; omega, Hq2⟩
            case measure => simp [intOf]; omega
        · obtain rfl : i = l.length := by omega
          rw [List.take_length] at *
          go_wp2
          go_ret
          exact ⟨ret_int (by have := totW_sum l; rw [sub0_pos] <;> omega), hq.out⟩
    · have h2 : l = [] := List.eq_nil_of_length_eq_zero (by omega)
      subst h2
      obtain ⟨A, ca, rfl, _, _⟩ := h
      go_enter Try.func118, Try.ntmps118
      go_wp2
      refine wp_loop_rounds 1 ?_
      rw [rounds_succ]
      go_wp2
      go_ret
      exact ⟨ret_int (by rw [sub0_pos] <;> simp [totW] at * <;> omega), Below.refl _ _⟩
set_option maxHeartbeats 1000000 in
theorem c_szMem {w : World} {v : Value} {m : MemV} {left : Int} (h : MemR w v m) (h0 : 0 ≤ left) (h1 : left ≤ 9223372036854775807) :
    Calls Try.prog 82 #[v, .int .i64 left] w fun e w' => e = .returned (.int .i64 (sub0 left (szM m))) ∧ Below w.heap.size w w' := by
  obtain ⟨s, c, b, rfl, r1, r2, r3⟩ := h
  have hbb : ∀ W, Below w.heap.size w W → RK kSec W s m.secs ∧ RK kWr W c m.cache ∧ RK kInt W b m.bad := fun W hb => ⟨RK_below r1 hb, RK_below r2 hb, RK_below r3 hb⟩
  have HR := Aside0.mk hbb
  clear r1 r2 r3 hbb
  by_cases x1 : left - (szSS m.secs : Int) < 0
  · go_enter Try.func82, Try.ntmps82
    go_wp2_with (first
      | (go_at_call 117; have hb := HR.out _ (below_alloc (Below.refl _ _) (.cells #[s, c, .bool m.failed, b] 89 (0, 0))); refine (c_szIntSS hb.1 h0 h1).mono ?_; rw [sub0_neg x1]; rintro e w1 ⟨rfl, hq⟩; obtain ⟨g1, hb1⟩ := box1 (below_drawn hq); have HB := Aside0.mk hb1; clear hb hq g1 hb1)
      | fail)
    go_ret
    exact ⟨ret_int (by rw [sub0_neg]; unfold szM; omega), HB.out⟩
  · by_cases x2 : left - (szSS m.secs : Int) - (totW m.cache : Int) < 0
    · go_enter Try.func82, Try.ntmps82
      go_wp2_with (first
        | (go_at_call 117; have hb := HR.out _ (below_alloc (Below.refl _ _) (.cells #[s, c, .bool m.failed, b] 89 (0, 0))); refine (c_szIntSS hb.1 h0 h1).mono ?_; rw [sub0_pos (by omega)]; rintro e w1 ⟨rfl, hq⟩; obtain ⟨g1, hb1⟩ := box1 (below_drawn hq); have G1 := Aside0.mk g1; have HB := Aside0.mk hb1; clear hb hq g1 hb1; obtain ⟨k1, k2, k3, k4⟩ := four G1.out)
        | (go_at_call 118; have hb := HR.out _ HB.out; refine (c_szWrS hb.2.1 (by omega) (by omega)).mono ?_; rw [sub0_neg x2]; rintro e w2 ⟨rfl, hq⟩; have HB2 := Aside0.mk (below_next HB.out hq); clear hb hq)
        | fail)
      go_ret
      exact ⟨ret_int (by rw [sub0_neg]; unfold szM; omega), HB2.out⟩
    · go_enter Try.func82, Try.ntmps82
      by_cases x3 : left - (szSS m.secs : Int) - (totW m.cache : Int) - (m.bad.length : Int) < 0
      · go_wp2_with (first
          | (go_at_call 117; have hb := HR.out _ (below_alloc (Below.refl _ _) (.cells #[s, c, .bool m.failed, b] 89 (0, 0))); refine (c_szIntSS hb.1 h0 h1).mono ?_; rw [sub0_pos (by omega)]; rintro e w1 ⟨rfl, hq⟩; obtain ⟨g1, hb1⟩ := box1 (below_drawn hq); have G1 := Aside0.mk g1; have HB := Aside0.mk hb1; clear hb hq g1 hb1; obtain ⟨k1, k2, k3, k4⟩ := four G1.out)
          | (go_at_call 118; have hb := HR.out _ HB.out; refine (c_szWrS hb.2.1 (by omega) (by omega)).mono ?_; rw [sub0_pos (by omega)]; rintro e w2 ⟨rfl, hq⟩; have G2 := Aside0.mk (blk_below G1.out hq); have HB2 := Aside0.mk (below_next HB.out hq); clear hb hq k1 k2 k3 k4; obtain ⟨k1, k2, k3, k4⟩ := four G2.out)
          | (go_at_call 119; have hb := HR.out _ HB2.out; refine (c_szIntS hb.2.2 (by omega) (by omega)).mono ?_; rw [if_pos x3]; rintro e w3 ⟨rfl, hq⟩; have HB3 := Aside0.mk (below_next HB2.out (below_drawn hq)); clear hb hq)
          | fail)
        go_ret
        exact ⟨ret_int (by rw [sub0_neg]; unfold szM; omega), HB3.out⟩
      · go_wp2_with (first
          | (go_at_call 117; have hb := HR.out _ (below_alloc (Below.refl _ _) (.cells #[s, c, .bool m.failed, b] 89 (0, 0))); refine (c_szIntSS hb.1 h0 h1).mono ?_; rw [sub0_pos (by omega)]; rintro e w1 ⟨rfl, hq⟩; obtain ⟨g1, hb1⟩ := box1 (below_drawn hq); have G1 := Aside0.mk g1; have HB := Aside0.mk hb1; clear hb hq g1 hb1; obtain ⟨k1, k2, k3, k4⟩ := four G1.out)
          | (go_at_call 118; have hb := HR.out _ HB.out; refine (c_szWrS hb.2.1 (by omega) (by omega)).mono ?_; rw [sub0_pos (by omega)]; rintro e w2 ⟨rfl, hq⟩; have G2 := Aside0.mk (blk_below G1.out hq); have HB2 := Aside0.mk (below_next HB.out hq); clear hb hq k1 k2 k3 k4; obtain ⟨k1, k2, k3, k4⟩ := four G2.out)
          | (go_at_call 119; have hb := HR.out _ HB2.out; refine (c_szIntS hb.2.2 (by omega) (by omega)).mono ?_; rw [if_neg (by omega)]; rintro e w3 ⟨rfl, hq⟩; have HB3 := Aside0.mk (below_next HB2.out (below_drawn hq)); clear hb hq)
          | fail)
        go_ret
        exact ⟨ret_int (by rw [sub0_pos] <;> unfold szM <;> omega), HB3.out⟩
end Go.Proofs.Ytggmifnblcjdfaa.MHeld
