/- Entries that are only in memory: as the entries of a cache, of another type. -/
import Derived.Test.YtggmifnblcjdfaaLawLib
import Derived.Test.YtggmifnblcjdfaaSepT
namespace Go.Proofs.Ytggmifnblcjdfaa.AEnt
open Go.RowKit Go.Proofs.YtggmifnblcjdfaaW.PrintWords Go.Proofs.Ytggmifnblcjdfaa.Fp Go.Proofs.Ytggmifnblcjdfaa.MInt Go.Proofs.Ytggmifnblcjdfaa.MKinds Go.Proofs.Ytggmifnblcjdfaa.MRead Go.Proofs.Ytggmifnblcjdfaa.MMake Go.Proofs.Ytggmifnblcjdfaa.MPut Go.Proofs.Ytggmifnblcjdfaa.MHeld Go.Proofs.Ytggmifnblcjdfaa.MMark
set_option linter.unusedVariables false
set_option linter.unusedSimpArgs false
set_option maxHeartbeats 1000000 in
set_option maxRecDepth 100000 in
theorem c_heldEntS {w : World} {v : Value} {l : List (Int × List Int)} {k : Int} (h : RK kWr w v (mkWrS k l)) (h0 : 0 ≤ k) (h1 : k + totW l ≤ 9223372036854775807) :
    Calls Try.prog 66 #[v, .int .i64 k] w fun e w' => e = .returned (.int .i64 (k + totW l)) ∧ ∃ n, w' = w.drewN n := by
  have lx := RK_len h
  rw [mkWrS_length] at lx
  by_cases hn : 0 < l.length
  · obtain ⟨ad, cap, rfl, hc⟩ := RK_wrs h (by rw [mkWrS_length]; exact hn)
    rw [mkWrS_length]
    have Hc := Aside0.mk hc
    clear h hc
    go_enter Try.func66, Try.ntmps66
    go_wp2
    go_loopw [1, 5] (fun v1 v5 wr => ∃ i : Nat, i ≤ l.length ∧ v5 = .int .i64 i ∧ v1 = .int .i64 (k + totW (l.take i)) ∧ Aside0 (Dr w wr)) (fun _ v5 _ => l.length - (intOf v5).toNat)
    case atStart => exact ⟨0, by omega, rfl, by simp [totW], ⟨Dr.refl _⟩⟩
    case round =>
      obtain ⟨i, hi, rfl, rfl, hq⟩ := hrel
      by_cases hlt : i < l.length
      · obtain ⟨x, hxi⟩ : ∃ x, l[i]? = some x := ⟨_, List.getElem?_eq_getElem hlt⟩
        obtain ⟨u, cn, cu, ru⟩ := Hc.out i _ (mkWrS_get hxi)
        replace cn := hq.out.cell cn
        replace cu := hq.out.cell cu
        have Ru := Aside0.mk (hq.out.rk ru)
        have hs := totW_succ hxi
        have hle := totW_le (l := l) (i + 1)
        rw [hs] at hle
        have Hs := Aside0.mk hs
        clear ru hxi hs
        generalize ht : totW (l.take i) = t at *
        have Ht := Aside0.mk ht
        clear ht
        have hpos : ¬ (k + (t : Int) + 1 + (x.2.length : Int) < 0) := by omega
        have heq : (k + (t : Int) != k + (t : Int)) = false := by simp
        go_wp2_with (first | (go_at_call 27; refine (c_heldIntS Ru.out (by omega) (by rw [cntL_length]; omega)).mono ?_; rw [held_cnt]; rintro e w1 ⟨rfl, hq2⟩; have Hq2 := Aside0.mk (hq.out.trans hq2); clear hq2) | fail)
        go_roundw
        case rel => exact ⟨i + 1, by omega, by go_num, by rw [Hs.out]; go_num, Hq2⟩
        case measure => simp [intOf]; omega
      · obtain rfl : i = l.length := by omega
        rw [List.take_length]
        go_wp2
        go_ret
        exact ⟨rfl, hq.out⟩
  · have h2 : l = [] := List.eq_nil_of_length_eq_zero (by omega)
    subst h2
    obtain ⟨A, ca, rfl, _, _⟩ := h
    go_enter Try.func66, Try.ntmps66
    go_wp2
    refine wp_loop_rounds 1 ?_
    rw [rounds_succ]
    go_wp2
    go_ret
    exact ⟨by simp [totW], 0, rfl⟩
set_option maxHeartbeats 1000000 in
theorem c_szEnt {w : World} {n : Int} {v : Value} {xs : List Int} {left : Int} (h : RK kInt w v xs) (h0 : 0 ≤ left) (h1 : left ≤ 9223372036854775807) :
    Calls Try.prog 83 #[.agg #[.int .i64 n, v], .int .i64 left] w fun e w' => e = .returned (.int .i64 (sub0 left xs.length)) ∧ Below w.heap.size w w' := by
  have lx := RK_len h
  have H := Aside0.mk h
  clear h
  by_cases hx : left - (xs.length : Int) < 0
  · go_enter Try.func83, Try.ntmps83
    go_wp2_with (first | (go_at_call 119; refine (c_szIntS (RK_below H.out (below_alloc (Below.refl _ _) _)) h0 h1).mono ?_; rw [if_pos hx]; rintro e w1 ⟨rfl, hq⟩; have HB := Aside0.mk (below_next (below_alloc (Below.refl _ _) _) (below_drawn hq)); clear hq) | fail)
    go_ret
    exact ⟨ret_int (sub0_neg hx).symm, HB.out⟩
  · go_enter Try.func83, Try.ntmps83
    go_wp2_with (first | (go_at_call 119; refine (c_szIntS (RK_below H.out (below_alloc (Below.refl _ _) _)) h0 h1).mono ?_; rw [if_neg (by omega)]; rintro e w1 ⟨rfl, hq⟩; have HB := Aside0.mk (below_next (below_alloc (Below.refl _ _) _) (below_drawn hq)); clear hq) | fail)
    go_ret
    exact ⟨ret_int (sub0_pos (by omega)).symm, HB.out⟩
set_option maxHeartbeats 1000000 in
set_option maxRecDepth 100000 in
theorem c_szEntS {w : World} {v : Value} {l : List (Int × List Int)} {left : Int} (h : RK kWr w v l) (h0 : 0 ≤ left) (h1 : left ≤ 9223372036854775807) :
    Calls Try.prog 37 #[v, .int .i64 left] w fun e w' => e = .returned (.int .i64 (sub0 left (totW l))) ∧ Below w.heap.size w w' := by
  have lx := RK_len h
  by_cases hl : left - l.length < 0
  · obtain ⟨A, cap, rfl, _⟩ := h
    go_enter Try.func37, Try.ntmps37
    go_wp2
    go_ret
    exact ⟨ret_int (by have := totW_sum l; rw [sub0_neg]; omega), Below.refl _ _⟩
  · by_cases hn : 0 < l.length
    · obtain ⟨ad, cap, rfl, hc⟩ := RK_wrs h hn
      have Hc := Aside0.mk hc
      clear h hc
      go_enter Try.func37, Try.ntmps37
      go_wp2
      go_loopw [1, 5] (fun v1 v5 wr => ∃ i : Nat, i ≤ l.length ∧ v5 = .int .i64 i ∧ v1 = .int .i64 (left - l.length - sumW (l.take i)) ∧ 0 ≤ left - l.length - sumW (l.take i) ∧ Aside0 (Below w.heap.size w wr)) (fun _ v5 _ => l.length - (intOf v5).toNat)
      case atStart => exact ⟨0, by omega, rfl, by simp [sumW], by simp [sumW]; omega, ⟨Below.refl _ _⟩⟩
      case round =>
        obtain ⟨i, hi, rfl, rfl, hge, hq⟩ := hrel
        by_cases hlt : i < l.length
        · obtain ⟨x, hxi⟩ : ∃ x, l[i]? = some x := ⟨_, List.getElem?_eq_getElem hlt⟩
          obtain ⟨u, cn, cu, ru⟩ := Hc.out i _ hxi
          replace cn := (hq.out.cell (lt_of_cell cn)).trans cn
          replace cu := (hq.out.cell (lt_of_cell cu)).trans cu
          have Ru := Aside0.mk (RK_below ru hq.out)
          have hs := sumW_succ hxi
          have hle := sumW_le (l := l) (i + 1)
          rw [hs] at hle
          have Hs := Aside0.mk hs
          have hx9 := RK_len ru
          clear ru hxi hs
          generalize ht : sumW (l.take i) = t at *
          have Ht := Aside0.mk ht
          clear ht
          by_cases hx : left - (l.length : Int) - (t : Int) - (x.2.length : Int) < 0
          · go_wp2_with (first | (go_at_call 83; refine (c_szEnt Ru.out (by omega) (by omega)).mono ?_; rw [sub0_neg hx]; rintro e w1 ⟨rfl, hq2⟩; have Hq2 := Aside0.mk (below_next hq.out hq2); clear hq2) | fail)
            go_ret
            exact ⟨ret_int (by rw [sub0_neg]; have := totW_sum l; omega), Hq2.out⟩
          · go_wp2_with (first | (go_at_call 83; refine (c_szEnt Ru.out (by omega) (by omega)).mono ?_; rw [sub0_pos (by omega)]; rintro e w1 ⟨rfl, hq2⟩; have Hq2 := Aside0.mk (below_next hq.out hq2); clear hq2) | fail)
            go_roundw
            case rel => exact ⟨i + 1, by omega, by go_num, by rw [Hs.out]; go_num, by rw [Hs.out]; omega, Hq2⟩
            case measure => simp [intOf]; omega
        · obtain rfl : i = l.length := by omega
          rw [List.take_length] at *
          go_wp2
          go_ret
          exact ⟨ret_int (by have := totW_sum l; rw [sub0_pos] <;> omega), hq.out⟩
    · have h2 : l = [] := List.eq_nil_of_length_eq_zero (by omega)
      subst h2
      obtain ⟨A, ca, rfl, _, _⟩ := h
      go_enter Try.func37, Try.ntmps37
      go_wp2
      refine wp_loop_rounds 1 ?_
      rw [rounds_succ]
      go_wp2
      go_ret
      exact ⟨ret_int (by rw [sub0_pos] <;> simp [totW] at * <;> omega), Below.refl _ _⟩
set_option maxHeartbeats 1000000 in
theorem c_eqEnt {w : World} {a b : Int} {v u : Value} {xs ys : List Int} (hx : RK kInt w v xs) (hy : RK kInt w u ys) :
    Calls Try.prog 87 #[.agg #[.int .i64 a, v], .agg #[.int .i64 b, u]] w fun e w' => e = .returned (.bool (decide ((a, xs) = (b, ys)))) ∧ Below w.heap.size w w' := by
  have Hx := Aside0.mk hx
  have Hy := Aside0.mk hy
  clear hx hy
  by_cases hab : a = b
  · subst hab
    by_cases hxy : xs = ys
    · subst hxy
      go_enter Try.func87, Try.ntmps87
      go_wp2_with (first | (go_at_call 25; refine (c_eqIntS (RK_below Hx.out (below_alloc (below_alloc (Below.refl _ _) _) _)) (RK_below Hy.out (below_alloc (below_alloc (Below.refl _ _) _) _))).mono ?_; rintro e w1 ⟨rfl, n1, rfl⟩; rw [decide_eq_true rfl]) | fail)
      go_ret
      exact ⟨ret_bool (by simp), pw_below_drewN (below_alloc (below_alloc (Below.refl _ _) _) _) _⟩
    · have hd : decide (xs = ys) = false := decide_eq_false hxy
      go_enter Try.func87, Try.ntmps87
      go_wp2_with (first | (go_at_call 25; refine (c_eqIntS (RK_below Hx.out (below_alloc (below_alloc (Below.refl _ _) _) _)) (RK_below Hy.out (below_alloc (below_alloc (Below.refl _ _) _) _))).mono ?_; rintro e w1 ⟨rfl, n1, rfl⟩; rw [hd]) | fail)
      go_ret
      exact ⟨ret_bool (by simp [hxy]), pw_below_drewN (below_alloc (below_alloc (Below.refl _ _) _) _) _⟩
  · have hab' : (a == b) = false := by simpa using hab
    go_enter Try.func87, Try.ntmps87
    go_wp2
    go_ret
    exact ⟨ret_bool (by simp [hab]), below_alloc (below_alloc (Below.refl _ _) _) _⟩
set_option maxHeartbeats 1000000 in
set_option maxRecDepth 100000 in
theorem c_eqEntS {w : World} {v u : Value} {xs ys : List (Int × List Int)} (hx : RK kWr w v xs) (hy : RK kWr w u ys) :
    Calls Try.prog 44 #[v, u] w fun e w' => e = .returned (.bool (decide (xs = ys))) ∧ Below w.heap.size w w' := by
  have lx := RK_len hx
  have ly := RK_len hy
  by_cases hne : xs.length = ys.length
  · by_cases h0 : 0 < xs.length
    · obtain ⟨a, ca, rfl, ha⟩ := RK_wrs hx h0
      obtain ⟨b, cb, rfl, hb⟩ := RK_wrs hy (by omega)
      have Ha := Aside0.mk ha
      have Hb := Aside0.mk hb
      have Hne := Aside0.mk hne
      rw [← hne]
      clear ha hb hx hy hne
      go_enter Try.func44, Try.ntmps44
      go_wp2
      go_loopw [5] (fun v5 wr => ∃ i : Nat, i ≤ xs.length ∧ v5 = .int .i64 i ∧ Aside0 (xs.take i = ys.take i) ∧ Aside0 (Below w.heap.size w wr)) (fun v5 _ => xs.length - (intOf v5).toNat)
      case atStart => exact ⟨0, by omega, rfl, ⟨rfl⟩, ⟨Below.refl _ _⟩⟩
      case round =>
        obtain ⟨i, hi, rfl, ht, hq⟩ := hrel
        by_cases hlt : i < xs.length
        · have hlt' : i < ys.length := by have := Hne.out; omega
          obtain ⟨x, hxi⟩ : ∃ x, xs[i]? = some x := ⟨_, List.getElem?_eq_getElem hlt⟩
          obtain ⟨y, hyi⟩ : ∃ y, ys[i]? = some y := ⟨_, List.getElem?_eq_getElem hlt'⟩
          obtain ⟨ux, cx, cx2, rx⟩ := Ha.out i x hxi
          obtain ⟨uy, cy, cy2, ry⟩ := Hb.out i y hyi
          replace cx := (hq.out.cell (lt_of_cell cx)).trans cx
          replace cy := (hq.out.cell (lt_of_cell cy)).trans cy
          replace cx2 := (hq.out.cell (lt_of_cell cx2)).trans cx2
          replace cy2 := (hq.out.cell (lt_of_cell cy2)).trans cy2
          have Rx := Aside0.mk (RK_below rx hq.out)
          have Ry := Aside0.mk (RK_below ry hq.out)
          have Hxi := Aside0.mk hxi
          have Hyi := Aside0.mk hyi
          clear hxi hyi rx ry
          go_wp2
          go_still_tail 8, (by kernel_rfl)
          change wpList _ _ _ _ _ wr.drew
          have Hq2 := Aside0.mk (Below.drew hq.out)
          have Rx2 := Aside0.mk (RK_below Rx.out (Below.drew (Below.refl _ _)))
          have Ry2 := Aside0.mk (RK_below Ry.out (Below.drew (Below.refl _ _)))
          generalize wr.drew = w2 at *
          by_cases hxy : x = y
          · subst hxy
            have hd : decide ((x.1, x.2) = (x.1, x.2)) = true := decide_eq_true rfl
            go_wp2_with (first | (go_at_call 87; refine (c_eqEnt Rx2.out Ry2.out).mono ?_; rintro e w3 ⟨rfl, hb⟩; rw [hd]; have Hb3 := Aside0.mk (hb.mono (Nat.le_refl _)); clear hb) | fail)
            go_roundw
            case rel => exact ⟨i + 1, by omega, by go_num, ⟨take_next ht.out Hxi.out Hyi.out⟩, ⟨below_next Hq2.out Hb3.out⟩⟩
            case measure => simp [intOf]; omega
          · have hd : decide ((x.1, x.2) = (y.1, y.2)) = false := decide_eq_false hxy
            have hd2 : decide (xs = ys) = false := by
              rw [decide_eq_false_iff_not]; rintro rfl
              have := Hxi.out.symm.trans Hyi.out
              exact hxy (Option.some.inj this)
            go_wp2_with (first | (go_at_call 87; refine (c_eqEnt Rx2.out Ry2.out).mono ?_; rintro e w3 ⟨rfl, hb⟩; rw [hd]; have Hb3 := Aside0.mk (hb.mono (Nat.le_refl _)); clear hb) | fail)
            go_ret
            exact ⟨ret_bool hd2.symm, below_next Hq2.out Hb3.out⟩
        · obtain rfl : i = xs.length := by omega
          have hd : decide (xs = ys) = true := by
            rw [decide_eq_true_eq]
            have h1 := ht.out
            have h2 := Hne.out
            rwa [List.take_of_length_le (by omega), List.take_of_length_le (by omega)] at h1
          go_wp2
          go_ret
          exact ⟨ret_bool hd.symm, hq.out⟩
    · have h1 : xs = [] := List.eq_nil_of_length_eq_zero (by omega)
      have h2 : ys = [] := List.eq_nil_of_length_eq_zero (by omega)
      subst h1 h2
      obtain ⟨A, ca, rfl, _, _⟩ := hx
      obtain ⟨B, cb, rfl, _, _⟩ := hy
      go_enter Try.func44, Try.ntmps44
      go_wp2
      refine wp_loop_rounds 1 ?_
      rw [rounds_succ]
      go_wp2
      go_ret
      exact ⟨rfl, Below.refl _ _⟩
  · obtain ⟨A, ca, rfl, _, _⟩ := hx
    obtain ⟨B, cb, rfl, _, _⟩ := hy
    have hd : decide (xs = ys) = false := by rw [decide_eq_false_iff_not]; rintro rfl; exact hne rfl
    go_enter Try.func44, Try.ntmps44
    go_wp2
    go_ret
    exact ⟨ret_bool hd.symm, Below.refl _ _⟩
set_option maxHeartbeats 1000000 in
theorem c_toEnt {w : World} {n : Int} {v : Value} {xs : List Int} (h : RK kInt w v xs) (hl : xs.length ≤ 16777216) :
    Calls Try.prog 85 #[.agg #[.int .i64 n, v]] w fun e w' => ∃ u F, e = .returned (.agg #[.int .i64 n, u]) ∧ oInt.O 3 w' F u xs ∧ Fresh w F ∧ Below w.heap.size w w' := by
  have H := Aside0.mk h
  clear h
  go_enter Try.func85, Try.ntmps85
  go_wp2_with (first
    | (go_at_call 122; refine (c_toIntS (RK_below H.out (below_alloc (below_alloc (below_alloc (Below.refl _ _) _) _) _)) hl).mono ?_; rintro e w1 ⟨z, G, rfl, hz, hG, hb⟩; obtain ⟨g1, g2, hb1⟩ := boxes3 hb; have hG2 := hG.elder (w := w) (by simp; omega); obtain ⟨Az, cz, rfl, hzz⟩ := O_RK hz; clear hzz; have HZ := Aside0.mk hz; have HG := Aside0.mk hG2; have HB := Aside0.mk hb1; have G1 := Aside0.mk g1; have G2 := Aside0.mk g2; obtain ⟨k1, k2⟩ := two g1; obtain ⟨l1, l2⟩ := two g2; have f1 := blk_frozen g1; have f2 := blk_frozen g2; have hdg : ∀ k ∈ G, k ≠ w.heap.size + 1 ∧ k ≠ w.heap.size + 1 + 1 := (fun k hk => by have := hG.2 k hk; simp at this; omega); have HD := Aside0.mk hdg; clear hz hG hb hb1 hG2 hdg)
    | fail)
  refine bodyPost_ret (results_cell_row rfl _ _ (w.heap.size + 1) 94 #[.int .i64 n, .slice Az xs.length cz] (0, 0) _ rfl (blk_set (blk_set (blk_ne (by simp) G1.out) 0 _) 1 _) Try.underlying94 rfl (by kernel_rfl)) rfl ?_
  have hc : Chg [w.heap.size + 1, w.heap.size + 1 + 1] w1 (((w1.setCell ⟨w.heap.size + 1 + 1, 1, none⟩ (.slice Az xs.length cz)).setCell ⟨w.heap.size + 1, 0, none⟩ (.int .i64 n)).setCell ⟨w.heap.size + 1, 1, none⟩ (.slice Az xs.length cz)) :=
    (((Chg.refl _ _).set (.inl (by simp)) _).set (.inl (by simp)) _).set (.inl (by simp)) _
  exact ⟨_, _, rfl, O_chg HZ.out hc (fun k hk hk' => by have := HD.out k hk; simp at hk'; omega), HG.out, Chg.below HB.out hc (by intro i hi; simp at hi; omega)⟩
set_option maxHeartbeats 1000000 in
set_option maxRecDepth 100000 in
theorem c_toEntS {w : World} {v : Value} {xs : List (Int × List Int)} (h : RK kWr w v xs) (hl : xs.length ≤ 16777216) (hl2 : ∀ x ∈ xs, x.2.length ≤ 16777216) :
    Calls Try.prog 40 #[v] w fun e w' => ∃ u F, e = .returned u ∧ oWr.O 94 w' F u xs ∧ Fresh w F ∧ Below w.heap.size w w' := by
  have lx := RK_len h
  obtain ⟨A, ca, rfl, hr⟩ := id h
  have H := Aside0.mk h
  have HL := Aside0.mk hl2
  clear h hr hl2
  go_enter Try.func40, Try.ntmps40
  go_wp2_with (first | (at_make; refine make_O oWr rfl rfl 32 94 _ _ rfl xs.length rfl rfl Try.underlying32 (.agg #[.int .i64 0, .slice none 0 0]) 32 (by kernel_rfl) rfl (by decide) (by decide) (0, []) (fun w' => ⟨[], [], [.int .i64 0], [.slice none 0 0], rfl, rfl, ⟨rfl, rfl⟩, _, rfl, O_nil oInt 3 w'⟩) (by omega) ?_; intro w1 ho hb; have HO := Aside0.mk ho; have HB := Aside0.mk hb; clear ho hb) | fail)
  generalize hgs : w.heap.size = g at *
  go_loopw [4] (fun v4 wr => ∃ i : Nat, i ≤ xs.length ∧ v4 = .int .i64 i ∧ ∃ (ys : List (Int × List Int)) (F : List Nat), Aside0 (ys.length = xs.length ∧ ys.take i = xs.take i ∧ oWr.O 94 wr F (.slice (some ⟨g, 0, none⟩) xs.length xs.length) ys ∧ Fresh w F ∧ Below w.heap.size w wr)) (fun v4 _ => xs.length - (intOf v4).toNat)
  case atStart => exact ⟨0, by omega, rfl, List.replicate xs.length (0, []), [g], ⟨by simp, by simp, HO.out, ⟨by simp, by simp [hgs]⟩, by rw [hgs]; exact HB.out⟩⟩
  case round =>
    obtain ⟨i, hi, rfl, ys, F, hr⟩ := hrel
    by_cases hlt : i < xs.length
    · obtain ⟨x, hxi⟩ : ∃ x, xs[i]? = some x := ⟨_, List.getElem?_eq_getElem hlt⟩
      obtain ⟨ad, cap, ha, hc⟩ := RK_wrs (RK_below H.out hr.out.2.2.2.2) (by omega)
      cases ha
      obtain ⟨u, cn, cu, ru⟩ := hc i x hxi
      have Ru := Aside0.mk ru
      have hxl := HL.out x (List.mem_of_getElem? hxi)
      have Hxi := Aside0.mk hxi
      clear hc ru hxi
      have hlt' : i < ys.length := by have := hr.out.1; omega
      go_wp2_with (first
        | (go_at_call 85; refine (c_toEnt Ru.out hxl).mono ?_; rintro e w2 ⟨z, G, rfl, hz, hG, hb⟩; have hO2 := O_below hr.out.2.2.1 hb; obtain ⟨Az, cz, rfl, hzz⟩ := O_RK hz; clear hzz; have HZ := Aside0.mk hz; have HG := Aside0.mk hG; have HB2 := Aside0.mk hb; obtain ⟨u0, c1, c2⟩ := O_cells (t := 0) hO2 hlt' (by decide); obtain ⟨u1, d1, d2⟩ := O_cells (t := 1) hO2 hlt' (by decide); simp only [show oWr.sz = 2 from rfl, Nat.add_zero] at c1 c2 d1 d2; have HO2 := Aside0.mk hO2; clear hz hG hb hO2)
        | fail)
      go_roundw
      case rel =>
        obtain ⟨h1, h2, h3, h4, h5⟩ := hr.out
        obtain ⟨F', k1, k2, k3⟩ := O_put (y := x) HO2.out h4.1 hlt' (⟨[], _, [.int .i64 x.1], _, rfl, rfl, ⟨rfl, rfl⟩, _, rfl, HZ.out⟩ : oWr.M _ _ x _) HG.out.1 (fun k hk hk' => by have := HG.out.2 k hk; have := O_lt h3 k hk'; omega)
        simp only [show oWr.sz = 2 from rfl] at k1
        refine ⟨i + 1, by omega, by go_num, ys.set i x, F', ⟨by simp [h1], ?_, k1, ⟨k2, fun k hk => ?_⟩, ?_⟩⟩
        · rw [List.take_succ_eq_append_getElem (by simp; omega), List.take_set_of_le (Nat.le_refl _), h2, List.getElem_set_self]
          obtain ⟨h6, h7⟩ := List.getElem?_eq_some_iff.1 Hxi.out
          rw [List.take_succ_eq_append_getElem h6, h7]
        · rcases k3 k hk with q | q
          · exact h4.2 k q
          · have := HG.out.2 k q; have := h5.size; omega
        · exact below_set (below_set (below_next h5 HB2.out) (by omega)) (by omega)
      case measure => simp [intOf]; omega
    · obtain rfl : i = xs.length := by omega
      go_wp2
      go_ret
      obtain ⟨h2, h3, h4, h5, h6⟩ := hr.out
      rw [List.take_of_length_le (by omega), List.take_of_length_le (by omega)] at h3
      subst h3
      exact ⟨_, _, rfl, h4, h5, h6⟩
theorem getW_of_map_len {xs ys : List (Int × List Int)} (h : ys.map (fun e => e.2.length) = xs.map (fun e => e.2.length)) {i : Nat} {x : Int × List Int} (hx : xs[i]? = some x) : ∃ y, ys[i]? = some y ∧ y.2.length = x.2.length := by
  have h1 := congrArg (fun l => l[i]?) h
  simp only [List.getElem?_map, hx, Option.map_some] at h1
  obtain ⟨y, hy, hl⟩ := Option.map_eq_some_iff.1 h1
  exact ⟨y, hy, hl⟩
theorem mapW_set_len {xs ys : List (Int × List Int)} (h : ys.map (fun e => e.2.length) = xs.map (fun e => e.2.length)) {i : Nat} {x z : Int × List Int} (hx : xs[i]? = some x) (hz : z.2.length = x.2.length) : (ys.set i z).map (fun e => e.2.length) = xs.map (fun e => e.2.length) := by
  rw [List.map_set, h, hz]
  apply List.ext_getElem?
  intro j
  rw [List.getElem?_set]
  split
  · rename_i e; subst e
    split
    · rw [List.getElem?_map, hx]; rfl
    · rename_i h2; rw [List.getElem?_eq_none (by omega)]
  · rfl
/-- The number of an entry stored; then the entry's slice in that world. -/
theorem O_wr_num {e : TypeId} {w : World} {F : List Nat} {g n cap : Nat} {xs : List (Int × List Int)} (h : oWr.O e w F (.slice (some ⟨g, 0, none⟩) n cap) xs) (hnd : F.Nodup) {i : Nat} {x : Int × List Int} (hi : xs[i]? = some x) (z : Int) :
    ∃ u F1 G, w.cell? ⟨g, i * 2, none⟩ = some (.int .i64 x.1) ∧ w.frozen? ⟨g, i * 2, none⟩ = false ∧ w.cell? ⟨g, i * 2 + 1, none⟩ = some u ∧ g ∈ F ∧
      oInt.O 3 (w.setCell ⟨g, i * 2, none⟩ (.int .i64 z)) G u x.2 ∧ F1.Nodup ∧ (∀ k ∈ F1, k ∈ F) ∧ (∀ k ∈ G, k ∈ F) ∧
      ∀ (w1 : World) (ys : List Int), Chg G (w.setCell ⟨g, i * 2, none⟩ (.int .i64 z)) w1 → oInt.O 3 w1 G u ys → oWr.O e w1 F1 (.slice (some ⟨g, 0, none⟩) n cap) (xs.set i (z, ys)) := by
  obtain ⟨c, G, ⟨F0, G0, c1, c2, rfl, rfl, ⟨rfl, rfl⟩, u, rfl, hu⟩, _, hGF, hGn, hgG, hgF, hcell, hfr, _, hput⟩ := O_focus h hnd hi
  simp only [List.nil_append] at *
  have q1 := hcell 0 _ rfl
  have q2 := hcell 1 _ rfl
  have q3 := hfr 0
  simp only [show oWr.sz = 2 from rfl, Nat.add_zero] at q1 q2 q3
  have hu1 : oInt.O 3 (w.setCell ⟨g, i * 2, none⟩ (.int .i64 z)) G0 u x.2 := O_move hu (fun k hk => Below.heap_setCell _ _ _ _ (fun e => hgG (by rw [show k = g from e] at hk; exact hk)))
  obtain ⟨F1, hO1, hF1, hF1s⟩ := hput G0 (z, x.2) 0 (.int .i64 z) (by decide) ⟨[], G0, [.int .i64 z], [u], rfl, rfl, ⟨rfl, rfl⟩, u, rfl, by simpa [show oWr.sz = 2 from rfl] using hu1⟩ hGn (fun k hk _ => hk)
  simp only [show oWr.sz = 2 from rfl, Nat.add_zero] at hO1
  have hil : i < xs.length := (List.getElem?_eq_some_iff.1 hi).1
  obtain ⟨c', G', ⟨F0', G0', c1', c2', rfl, rfl, ⟨rfl, rfl⟩, u', rfl, hu'⟩, _, hGF', hGn', hgG', hgF', hcell', _, hin', _⟩ := O_focus hO1 hF1 (x := (z, x.2)) (i := i) (by rw [List.getElem?_set_self hil])
  simp only [List.nil_append] at *
  have hs : ∀ k ∈ F1, k ∈ F := fun k hk => (hF1s k hk).elim id (hGF k)
  have q4 := hcell' 1 _ rfl
  simp only [show oWr.sz = 2 from rfl] at q4
  have q5 : (w.setCell ⟨g, i * 2, none⟩ (.int .i64 z)).cell? ⟨g, i * 2 + 1, none⟩ = w.cell? ⟨g, i * 2 + 1, none⟩ := by
    apply World.cell?_setCell_other
    intro e; simp at e
  rw [q5, q2] at q4
  obtain rfl : u = u' := by simpa using q4
  refine ⟨u, F1, G0', q1, q3, q2, hgF, hu', hF1, hs, fun k hk => hs k (hGF' k hk), fun w1 ys hc hy => ?_⟩
  have := hin' w1 G0' (z, ys) hc (fun k hk _ => hk) ⟨[], G0', [.int .i64 z], [u], rfl, rfl, ⟨rfl, rfl⟩, u, rfl, hy⟩
  rwa [List.set_set] at this
end Go.Proofs.Ytggmifnblcjdfaa.AEnt
