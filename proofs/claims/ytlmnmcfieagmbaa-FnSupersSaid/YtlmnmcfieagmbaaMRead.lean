/- Contracts of functions that read sectors, caches and disks. -/
import Derived.Test.YtlmnmcfieagmbaaMKinds
import Derived.StillTailTactics
namespace Go.Proofs.Ytlmnmcfieagmbaa.MRead
open Go.RowKit Go.Proofs.YtlmnmcfieagmbaaW.PrintWords Go.Proofs.Ytlmnmcfieagmbaa.Fp Go.Proofs.Ytlmnmcfieagmbaa.MInt Go.Proofs.Ytlmnmcfieagmbaa.MKinds
set_option linter.unusedVariables false
set_option linter.unusedSimpArgs false
/-- A world in which nothing but draws have come. -/
def Dr (w wr : World) : Prop := ∃ n, wr = w.drewN n
theorem lt_of_cell {w : World} {a : Addr} {v : Value} (h : w.cell? a = some v) : a.block < w.heap.size := World.block_lt_of_cell? w _ h
theorem Dr.refl (w : World) : Dr w w := ⟨0, rfl⟩
theorem Dr.cell {w wr : World} {a : Addr} {v : Value} (h : Dr w wr) (c : w.cell? a = some v) : wr.cell? a = some v := by obtain ⟨n, rfl⟩ := h; exact c
theorem Dr.rk {α : Type} {k : Kd α} {w wr : World} {v : Value} {xs : List α} (h : Dr w wr) (c : RK k w v xs) : RK k wr v xs := by
  obtain ⟨n, rfl⟩ := h; exact RK_below c (pw_below_drewN (Below.refl _ _) n)
theorem Dr.next {w wr : World} (h : Dr w wr) (m : Nat) : Dr w (wr.drewN m) := by obtain ⟨n, rfl⟩ := h; exact ⟨_, World.drewN_drewN _ _ _⟩
theorem Dr.trans {a b c : World} (h : Dr a b) (k : Dr b c) : Dr a c := by obtain ⟨n, rfl⟩ := k; exact h.next n
theorem Dr.below {w wr : World} (h : Dr w wr) : Below w.heap.size w wr := below_drawn h
theorem box1 {w W : World} {o1 : Obj} (hb : Below (w.alloc o1).heap.size (w.alloc o1) W) : W.heap[w.heap.size]? = some o1 ∧ Below w.heap.size w W :=
  ⟨blk_below (blk_new w o1) hb, below_next (below_alloc (Below.refl _ _) _) hb⟩
theorem two {w : World} {g : Nat} {a b : Value} {t : TypeId} (h : w.heap[g]? = some (.cells #[a, b] t (0, 0))) : w.cell? ⟨g, 0, none⟩ = some a ∧ w.cell? ⟨g, 1, none⟩ = some b := ⟨(blk_cell h 0).trans rfl, (blk_cell h 1).trans rfl⟩
def tot : List (List Int) → Nat
  | [] => 0
  | x :: l => x.length + tot l
/-- Rows of these lengths, of the numbers from k on. -/
def mkSS : Int → List (List Int) → List (List Int)
  | _, [] => []
  | k, x :: l => cntL k x.length :: mkSS (k + x.length) l
theorem mkSS_length (k : Int) (l : List (List Int)) : (mkSS k l).length = l.length := by
  induction l generalizing k with
  | nil => rfl
  | cons x l ih => simp [mkSS, ih]
theorem mkSS_tot (k : Int) (l : List (List Int)) : tot (mkSS k l) = tot l := by
  induction l generalizing k with
  | nil => rfl
  | cons x l ih => simp [mkSS, tot, ih, cntL_length]
theorem tot_succ {l : List (List Int)} {i : Nat} {x : List Int} (h : l[i]? = some x) : tot (l.take (i + 1)) = tot (l.take i) + x.length := by
  induction l generalizing i with
  | nil => simp at h
  | cons y l ih =>
    rcases i with _ | i
    · simp at h; subst h; simp [tot]
    · simp at h; have := ih h; simp only [List.take_succ_cons, tot, this]; omega
theorem tot_le {l : List (List Int)} (i : Nat) : tot (l.take i) ≤ tot l := by
  induction l generalizing i with
  | nil => simp
  | cons y l ih =>
    rcases i with _ | i
    · simp [tot]
    · have := ih i; simp only [List.take_succ_cons, tot]; omega
theorem mkSS_get {k : Int} {l : List (List Int)} {i : Nat} {x : List Int} (h : l[i]? = some x) : (mkSS k l)[i]? = some (cntL (k + tot (l.take i)) x.length) := by
  induction l generalizing i k with
  | nil => simp at h
  | cons y l ih =>
    rcases i with _ | i
    · simp at h; subst h; simp [mkSS, tot]
    · simp at h
      have := ih (k := k + y.length) h
      simp only [mkSS, List.getElem?_cons_succ, this, List.take_succ_cons, tot]
      rw [show k + (y.length : Int) + ((tot (l.take i) : Nat) : Int) = k + ((y.length + tot (l.take i) : Nat) : Int) by omega]
theorem held_cnt (k : Int) (n : Nat) : heldR k (cntL k n) = k + n := by unfold heldR; rw [cntL_length, if_pos rfl]
theorem boxes2 {w W : World} {o1 o2 : Obj} (hb : Below ((w.alloc o1).alloc o2).heap.size ((w.alloc o1).alloc o2) W) : W.heap[w.heap.size]? = some o1 ∧ W.heap[w.heap.size + 1]? = some o2 ∧ Below w.heap.size w W := by
  refine ⟨blk_below (blk_below (blk_new w o1) (below_alloc (Below.refl _ _) _)) hb, ?_, below_next (below_alloc (below_alloc (Below.refl _ _) _) _) hb⟩
  have := blk_below (blk_new (w.alloc o1) o2) hb
  simpa using this
theorem four {w : World} {g : Nat} {a b c d : Value} {t : TypeId} (h : w.heap[g]? = some (.cells #[a, b, c, d] t (0, 0))) :
    w.cell? ⟨g, 0, none⟩ = some a ∧ w.cell? ⟨g, 1, none⟩ = some b ∧ w.cell? ⟨g, 2, none⟩ = some c ∧ w.cell? ⟨g, 3, none⟩ = some d := ⟨(blk_cell h 0).trans rfl, (blk_cell h 1).trans rfl, (blk_cell h 2).trans rfl, (blk_cell h 3).trans rfl⟩
set_option maxHeartbeats 1000000 in
set_option maxRecDepth 100000 in
theorem c_eqIntSS {w : World} {v u : Value} {xs ys : List (List Int)} (hx : RK kSec w v xs) (hy : RK kSec w u ys) :
    Calls Try.prog 105 #[v, u] w fun e w' => e = .returned (.bool (decide (xs = ys))) ∧ ∃ n, w' = w.drewN n := by
  have lx := RK_len hx
  have ly := RK_len hy
  by_cases hne : xs.length = ys.length
  · by_cases h0 : 0 < xs.length
    · obtain ⟨a, ca, rfl, ha⟩ := RK_slices hx h0
      obtain ⟨b, cb, rfl, hb⟩ := RK_slices hy (by omega)
      have Ha := Aside0.mk ha
      have Hb := Aside0.mk hb
      have Hne := Aside0.mk hne
      rw [← hne]
      clear ha hb hx hy hne
      go_enter Try.func105, Try.ntmps105
      go_wp2
      go_loopw [5] (fun v5 wr => ∃ i : Nat, i ≤ xs.length ∧ v5 = .int .i64 i ∧ Aside0 (xs.take i = ys.take i) ∧ Aside0 (Dr w wr)) (fun v5 _ => xs.length - (intOf v5).toNat)
      case atStart => exact ⟨0, by omega, rfl, ⟨rfl⟩, ⟨Dr.refl w⟩⟩
      case round =>
        obtain ⟨i, hi, rfl, ht, hq⟩ := hrel
        by_cases hlt : i < xs.length
        · have hlt' : i < ys.length := by have := Hne.out; omega
          obtain ⟨x, hxi⟩ : ∃ x, xs[i]? = some x := ⟨_, List.getElem?_eq_getElem hlt⟩
          obtain ⟨y, hyi⟩ : ∃ y, ys[i]? = some y := ⟨_, List.getElem?_eq_getElem hlt'⟩
          obtain ⟨ux, cx, rx⟩ := Ha.out i x hxi
          obtain ⟨uy, cy, ry⟩ := Hb.out i y hyi
          replace cx := hq.out.cell cx
          replace cy := hq.out.cell cy
          have Rx := Aside0.mk (hq.out.rk rx)
          have Ry := Aside0.mk (hq.out.rk ry)
          have Hxi := Aside0.mk hxi
          have Hyi := Aside0.mk hyi
          clear hxi hyi rx ry
          by_cases hxy : x = y
          · subst hxy
            have hc : ∀ m, Calls Try.prog 107 #[ux, uy] (wr.drewN m) fun e w' => e = .returned (.bool true) ∧ ∃ n, w' = (wr.drewN m).drewN n := fun m => by
              have h := c_eqIntS ((Dr.refl _).next m |>.rk Rx.out) ((Dr.refl _).next m |>.rk Ry.out)
              rwa [decide_eq_true rfl] at h
            go_wp2
            go_quiet ((go_at_call 107; exact Calls.quiet_of (hc _)))
            go_wp2
            go_roundw
            case rel => exact ⟨i + 1, by omega, by go_num, ⟨take_next ht.out Hxi.out Hyi.out⟩, ⟨hq.out.next _⟩⟩
            case measure => simp [intOf]; omega
          · have hc : ∀ m, Calls Try.prog 107 #[ux, uy] (wr.drewN m) fun e w' => e = .returned (.bool false) ∧ ∃ n, w' = (wr.drewN m).drewN n := fun m => by
              have h := c_eqIntS ((Dr.refl _).next m |>.rk Rx.out) ((Dr.refl _).next m |>.rk Ry.out)
              rwa [decide_eq_false hxy] at h
            have hd : decide (xs = ys) = false := by
              rw [decide_eq_false_iff_not]; rintro rfl
              have := Hxi.out.symm.trans Hyi.out
              exact hxy (Option.some.inj this)
            go_wp2
            go_quiet ((go_at_call 107; exact Calls.quiet_of (hc _)))
            go_wp2
            go_ret
            exact ⟨ret_bool hd.symm, hq.out.next _⟩
        · obtain rfl : i = xs.length := by omega
          have hd : decide (xs = ys) = true := by
            rw [decide_eq_true_eq]
            have h1 := ht.out
            have h2 := Hne.out
            rwa [List.take_of_length_le (by omega), List.take_of_length_le (by omega)] at h1
          go_wp2
          go_ret
          exact ⟨ret_bool hd.symm, hq.out⟩
    · have h1 : xs = [] := List.eq_nil_of_length_eq_zero (by omega)
      have h2 : ys = [] := List.eq_nil_of_length_eq_zero (by omega)
      subst h1 h2
      obtain ⟨A, ca, rfl, _, _⟩ := hx
      obtain ⟨B, cb, rfl, _, _⟩ := hy
      go_enter Try.func105, Try.ntmps105
      go_wp2
      refine wp_loop_rounds 1 ?_
      rw [rounds_succ]
      go_wp2
      go_ret
      exact ⟨rfl, 0, rfl⟩
  · obtain ⟨A, ca, rfl, _, _⟩ := hx
    obtain ⟨B, cb, rfl, _, _⟩ := hy
    have hd : decide (xs = ys) = false := by rw [decide_eq_false_iff_not]; rintro rfl; exact hne rfl
    go_enter Try.func105, Try.ntmps105
    go_wp2
    go_ret
    exact ⟨ret_bool hd.symm, 0, rfl⟩
set_option maxHeartbeats 1000000 in
theorem c_eqWr {w : World} {a b : Int} {v u : Value} {xs ys : List Int} (hx : RK kInt w v xs) (hy : RK kInt w u ys) :
    Calls Try.prog 147 #[.agg #[.int .i64 a, v], .agg #[.int .i64 b, u]] w fun e w' => e = .returned (.bool (decide ((a, xs) = (b, ys)))) ∧ Below w.heap.size w w' := by
  have Hx := Aside0.mk hx
  have Hy := Aside0.mk hy
  clear hx hy
  by_cases hab : a = b
  · subst hab
    by_cases hxy : xs = ys
    · subst hxy
      go_enter Try.func147, Try.ntmps147
      go_wp2_with (first | (go_at_call 107; refine (c_eqIntS (RK_below Hx.out (below_alloc (below_alloc (Below.refl _ _) _) _)) (RK_below Hy.out (below_alloc (below_alloc (Below.refl _ _) _) _))).mono ?_; rintro e w1 ⟨rfl, n1, rfl⟩; rw [decide_eq_true rfl]) | fail)
      go_ret
      exact ⟨ret_bool (by simp), pw_below_drewN (below_alloc (below_alloc (Below.refl _ _) _) _) _⟩
    · have hd : decide (xs = ys) = false := decide_eq_false hxy
      go_enter Try.func147, Try.ntmps147
      go_wp2_with (first | (go_at_call 107; refine (c_eqIntS (RK_below Hx.out (below_alloc (below_alloc (Below.refl _ _) _) _)) (RK_below Hy.out (below_alloc (below_alloc (Below.refl _ _) _) _))).mono ?_; rintro e w1 ⟨rfl, n1, rfl⟩; rw [hd]) | fail)
      go_ret
      exact ⟨ret_bool (by simp [hxy]), pw_below_drewN (below_alloc (below_alloc (Below.refl _ _) _) _) _⟩
  · have hab' : (a == b) = false := by simpa using hab
    go_enter Try.func147, Try.ntmps147
    go_wp2
    go_ret
    exact ⟨ret_bool (by simp [hab]), below_alloc (below_alloc (Below.refl _ _) _) _⟩
set_option maxHeartbeats 1000000 in
set_option maxRecDepth 100000 in
theorem c_eqWrS {w : World} {v u : Value} {xs ys : List (Int × List Int)} (hx : RK kWr w v xs) (hy : RK kWr w u ys) :
    Calls Try.prog 106 #[v, u] w fun e w' => e = .returned (.bool (decide (xs = ys))) ∧ Below w.heap.size w w' := by
  have lx := RK_len hx
  have ly := RK_len hy
  by_cases hne : xs.length = ys.length
  · by_cases h0 : 0 < xs.length
    · obtain ⟨a, ca, rfl, ha⟩ := RK_wrs hx h0
      obtain ⟨b, cb, rfl, hb⟩ := RK_wrs hy (by omega)
      have Ha := Aside0.mk ha
      have Hb := Aside0.mk hb
      have Hne := Aside0.mk hne
      rw [← hne]
      clear ha hb hx hy hne
      go_enter Try.func106, Try.ntmps106
      go_wp2
      go_loopw [5] (fun v5 wr => ∃ i : Nat, i ≤ xs.length ∧ v5 = .int .i64 i ∧ Aside0 (xs.take i = ys.take i) ∧ Aside0 (Below w.heap.size w wr)) (fun v5 _ => xs.length - (intOf v5).toNat)
      case atStart => exact ⟨0, by omega, rfl, ⟨rfl⟩, ⟨Below.refl _ _⟩⟩
      case round =>
        obtain ⟨i, hi, rfl, ht, hq⟩ := hrel
        by_cases hlt : i < xs.length
        · have hlt' : i < ys.length := by have := Hne.out; omega
          obtain ⟨x, hxi⟩ : ∃ x, xs[i]? = some x := ⟨_, List.getElem?_eq_getElem hlt⟩
          obtain ⟨y, hyi⟩ : ∃ y, ys[i]? = some y := ⟨_, List.getElem?_eq_getElem hlt'⟩
          obtain ⟨ux, cx, cx2, rx⟩ := Ha.out i x hxi
          obtain ⟨uy, cy, cy2, ry⟩ := Hb.out i y hyi
          replace cx := (hq.out.cell (lt_of_cell cx)).trans cx
          replace cy := (hq.out.cell (lt_of_cell cy)).trans cy
          replace cx2 := (hq.out.cell (lt_of_cell cx2)).trans cx2
          replace cy2 := (hq.out.cell (lt_of_cell cy2)).trans cy2
          have Rx := Aside0.mk (RK_below rx hq.out)
          have Ry := Aside0.mk (RK_below ry hq.out)
          have Hxi := Aside0.mk hxi
          have Hyi := Aside0.mk hyi
          clear hxi hyi rx ry
          go_wp2
          go_still_tail 8, (by kernel_rfl)
          change wpList _ _ _ _ _ wr.drew
          have Hq2 := Aside0.mk (Below.drew hq.out)
          have Rx2 := Aside0.mk (RK_below Rx.out (Below.drew (Below.refl _ _)))
          have Ry2 := Aside0.mk (RK_below Ry.out (Below.drew (Below.refl _ _)))
          generalize wr.drew = w2 at *
          by_cases hxy : x = y
          · subst hxy
            have hd : decide ((x.1, x.2) = (x.1, x.2)) = true := decide_eq_true rfl
            go_wp2_with (first | (go_at_call 147; refine (c_eqWr Rx2.out Ry2.out).mono ?_; rintro e w3 ⟨rfl, hb⟩; rw [hd]; have Hb3 := Aside0.mk (hb.mono (Nat.le_refl _)); clear hb) | fail)
            go_roundw
            case rel => exact ⟨i + 1, by omega, by go_num, ⟨take_next ht.out Hxi.out Hyi.out⟩, ⟨below_next Hq2.out Hb3.out⟩⟩
            case measure => simp [intOf]; omega
          · have hd : decide ((x.1, x.2) = (y.1, y.2)) = false := decide_eq_false hxy
            have hd2 : decide (xs = ys) = false := by
              rw [decide_eq_false_iff_not]; rintro rfl
              have := Hxi.out.symm.trans Hyi.out
              exact hxy (Option.some.inj this)
            go_wp2_with (first | (go_at_call 147; refine (c_eqWr Rx2.out Ry2.out).mono ?_; rintro e w3 ⟨rfl, hb⟩; rw [hd]; have Hb3 := Aside0.mk (hb.mono (Nat.le_refl _)); clear hb) | fail)
            go_ret
            exact ⟨ret_bool hd2.symm, below_next Hq2.out Hb3.out⟩
        · obtain rfl : i = xs.length := by omega
          have hd : decide (xs = ys) = true := by
            rw [decide_eq_true_eq]
            have h1 := ht.out
            have h2 := Hne.out
            rwa [List.take_of_length_le (by omega), List.take_of_length_le (by omega)] at h1
          go_wp2
          go_ret
          exact ⟨ret_bool hd.symm, hq.out⟩
    · have h1 : xs = [] := List.eq_nil_of_length_eq_zero (by omega)
      have h2 : ys = [] := List.eq_nil_of_length_eq_zero (by omega)
      subst h1 h2
      obtain ⟨A, ca, rfl, _, _⟩ := hx
      obtain ⟨B, cb, rfl, _, _⟩ := hy
      go_enter Try.func106, Try.ntmps106
      go_wp2
      refine wp_loop_rounds 1 ?_
      rw [rounds_succ]
      go_wp2
      go_ret
      exact ⟨rfl, Below.refl _ _⟩
  · obtain ⟨A, ca, rfl, _, _⟩ := hx
    obtain ⟨B, cb, rfl, _, _⟩ := hy
    have hd : decide (xs = ys) = false := by rw [decide_eq_false_iff_not]; rintro rfl; exact hne rfl
    go_enter Try.func106, Try.ntmps106
    go_wp2
    go_ret
    exact ⟨ret_bool hd.symm, Below.refl _ _⟩
set_option maxHeartbeats 1000000 in
theorem c_eqMem {w : World} {v u : Value} {x y : MemV} (hx : MemR w v x) (hy : MemR w u y) :
    Calls Try.prog 15 #[v, u] w fun e w' => e = .returned (.bool (decide (x = y))) ∧ Below w.heap.size w w' := by
  obtain ⟨s, c, b, rfl, h1, h2, h3⟩ := hx
  obtain ⟨s', c', b', rfl, h1', h2', h3'⟩ := hy
  have hbb : ∀ W, Below w.heap.size w W → RK kSec W s x.secs ∧ RK kWr W c x.cache ∧ RK kInt W b x.bad ∧ RK kSec W s' y.secs ∧ RK kWr W c' y.cache ∧ RK kInt W b' y.bad := fun W hb => ⟨RK_below h1 hb, RK_below h2 hb, RK_below h3 hb, RK_below h1' hb, RK_below h2' hb, RK_below h3' hb⟩
  have HR := Aside0.mk hbb
  clear h1 h2 h3 h1' h2' h3' hbb
  have hd : decide (x = y) = (decide (x.secs = y.secs) && (decide (x.cache = y.cache) && ((x.failed == y.failed) && decide (x.bad = y.bad)))) := by
    obtain ⟨a1, a2, a3, a4⟩ := x
    obtain ⟨b1, b2, b3, b4⟩ := y
    simp only [MemV.mk.injEq]
    by_cases q1 : a1 = b1 <;> by_cases q2 : a2 = b2 <;> by_cases q3 : a3 = b3 <;> by_cases q4 : a4 = b4 <;> simp [q1, q2, q3, q4]
  rw [hd]
  clear hd
  generalize x.failed = xf
  generalize y.failed = yf
  go_enter Try.func15, Try.ntmps15
  go_wp2_with (first
    | (go_at_call 105; have hb := HR.out _ (below_alloc (below_alloc (Below.refl _ _) (.cells #[s, c, .bool xf, b] 30 (0, 0))) (.cells #[s', c', .bool yf, b'] 30 (0, 0))); refine (c_eqIntSS hb.1 hb.2.2.2.1).mono ?_; rintro e w1 ⟨rfl, hq⟩; obtain ⟨g1, g2, hb1⟩ := boxes2 (below_drawn hq); have G1 := Aside0.mk g1; have G2 := Aside0.mk g2; have HB := Aside0.mk hb1; clear hb hq g1 g2 hb1; obtain ⟨k1, k2, k3, k4⟩ := four G1.out; obtain ⟨l1, l2, l3, l4⟩ := four G2.out)
    | (go_at_call 106; have hb := HR.out _ HB.out; refine (c_eqWrS hb.2.1 hb.2.2.2.2.1).mono ?_; rintro e w2 ⟨rfl, hq⟩; have G12 := Aside0.mk (blk_below G1.out hq); have G22 := Aside0.mk (blk_below G2.out hq); have HB2 := Aside0.mk (below_next HB.out hq); clear hb hq k1 k2 k3 k4 l1 l2 l3 l4; obtain ⟨k1, k2, k3, k4⟩ := four G12.out; obtain ⟨l1, l2, l3, l4⟩ := four G22.out)
    | (go_at_call 107; have hb := HR.out _ HB2.out; refine (c_eqIntS hb.2.2.1 hb.2.2.2.2.2).mono ?_; rintro e w3 ⟨rfl, hq⟩; have HB3 := Aside0.mk (below_next HB2.out (below_drawn hq)); clear hb hq)
    | fail)
  all_goals go_ret
  all_goals refine ⟨ret_bool ?_, by first | exact HB3.out | exact HB2.out | exact HB.out⟩
  all_goals simp_all
set_option maxHeartbeats 1000000 in
set_option maxRecDepth 100000 in
theorem c_heldIntSS {w : World} {v : Value} {l : List (List Int)} {k : Int} (h : RK kSec w v (mkSS k l)) (h0 : 0 ≤ k) (h1 : k + tot l ≤ 9223372036854775807) :
    Calls Try.prog 111 #[v, .int .i64 k] w fun e w' => e = .returned (.int .i64 (k + tot l)) ∧ ∃ n, w' = w.drewN n := by
  have lx := RK_len h
  rw [mkSS_length] at lx
  by_cases hn : 0 < l.length
  · obtain ⟨ad, cap, rfl, hc⟩ := RK_slices h (by rw [mkSS_length]; exact hn)
    rw [mkSS_length]
    have Hc := Aside0.mk hc
    clear h hc
    go_enter Try.func111, Try.ntmps111
    go_wp2
    go_loopw [1, 5] (fun v1 v5 wr => ∃ i : Nat, i ≤ l.length ∧ v5 = .int .i64 i ∧ v1 = .int .i64 (k + tot (l.take i)) ∧ Aside0 (Dr w wr)) (fun _ v5 _ => l.length - (intOf v5).toNat)
    case atStart => exact ⟨0, by omega, rfl, by simp [tot], ⟨Dr.refl _⟩⟩
    case round =>
      obtain ⟨i, hi, rfl, rfl, hq⟩ := hrel
      by_cases hlt : i < l.length
      · obtain ⟨x, hxi⟩ : ∃ x, l[i]? = some x := ⟨_, List.getElem?_eq_getElem hlt⟩
        obtain ⟨u, cu, ru⟩ := Hc.out i _ (mkSS_get hxi)
        replace cu := hq.out.cell cu
        have Ru := Aside0.mk (hq.out.rk ru)
        have hs := tot_succ hxi
        have hle := tot_le (l := l) (i + 1)
        rw [hs] at hle
        have Hs := Aside0.mk hs
        clear ru hxi hs
        generalize ht : tot (l.take i) = t at *
        have Ht := Aside0.mk ht
        clear ht
        have hpos : ¬ (k + (t : Int) + (x.length : Int) < 0) := by omega
        go_wp2_with (first | (go_at_call 113; refine (c_heldIntS Ru.out (by omega) (by rw [cntL_length]; omega)).mono ?_; rw [held_cnt]; rintro e w1 ⟨rfl, hq2⟩; have Hq2 := Aside0.mk (hq.out.trans hq2); clear hq2) | fail)
        go_roundw
        case rel => exact ⟨i + 1, by omega, by go_num, by rw [Hs.out]; go_num, Hq2⟩
        case measure => simp [intOf]; omega
      · obtain rfl : i = l.length := by omega
        rw [List.take_length]
        go_wp2
        go_ret
        exact ⟨rfl, hq.out⟩
  · have h2 : l = [] := List.eq_nil_of_length_eq_zero (by omega)
    subst h2
    obtain ⟨A, ca, rfl, _, _⟩ := h
    go_enter Try.func111, Try.ntmps111
    go_wp2
    refine wp_loop_rounds 1 ?_
    rw [rounds_succ]
    go_wp2
    go_ret
    exact ⟨by simp [tot], 0, rfl⟩
end Go.Proofs.Ytlmnmcfieagmbaa.MRead
