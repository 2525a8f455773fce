/- Rows of disks in the laws: counted, compared, made. -/
import Derived.Test.YtggmifnblcjdfaaAKinds
import Derived.Test.YtggmifnblcjdfaaRP
namespace Go.Proofs.Ytggmifnblcjdfaa.AMake
open Go.RowKit Go.Proofs.Ytggmifnblcjdfaa.RJ Go.Proofs.Ytggmifnblcjdfaa.RP Go.Proofs.YtggmifnblcjdfaaW.PrintWords Go.Proofs.Ytggmifnblcjdfaa.Fp Go.Proofs.Ytggmifnblcjdfaa.FpStep Go.Proofs.Ytggmifnblcjdfaa.MInt Go.Proofs.Ytggmifnblcjdfaa.MKinds Go.Proofs.Ytggmifnblcjdfaa.MRead Go.Proofs.Ytggmifnblcjdfaa.MMake Go.Proofs.Ytggmifnblcjdfaa.MPut Go.Proofs.Ytggmifnblcjdfaa.MHeld Go.Proofs.Ytggmifnblcjdfaa.Sep Go.Proofs.Ytggmifnblcjdfaa.SepStep Go.Proofs.Ytggmifnblcjdfaa.AKinds
set_option linter.unusedVariables false
set_option linter.unusedSimpArgs false
def sumM : List MemV → Nat
  | [] => 0
  | x :: l => szM x + sumM l
theorem sumM_succ {l : List MemV} {i : Nat} {x : MemV} (h : l[i]? = some x) : sumM (l.take (i + 1)) = sumM (l.take i) + szM x := by
  induction l generalizing i with
  | nil => simp at h
  | cons y l ih =>
    rcases i with _ | i
    · simp at h; subst h; simp [sumM]
    · simp at h; have := ih h; simp only [List.take_succ_cons, sumM, this]; omega
theorem sumM_le {l : List MemV} (i : Nat) : sumM (l.take i) ≤ sumM l := by
  induction l generalizing i with
  | nil => simp [sumM]
  | cons y l ih =>
    rcases i with _ | i
    · simp [sumM]
    · simp only [List.take_succ_cons, sumM]; have := ih i; omega
def szMS (l : List MemV) : Nat := l.length + sumM l
set_option maxHeartbeats 2000000 in
theorem c_szMemS {w : World} {v : Value} {l : List MemV} {left : Int} (h : RK kMem w v l) (h0 : 0 ≤ left) (h1 : left ≤ 9223372036854775807) :
    Calls Try.prog 36 #[v, .int .i64 left] w fun e w' => e = .returned (.int .i64 (sub0 left (szMS l))) ∧ Below w.heap.size w w' := by
  have lx := RK_len h
  by_cases hl : left - l.length < 0
  · obtain ⟨A, cap, rfl, _⟩ := h
    go_enter Try.func36, Try.ntmps36
    go_wp2
    go_ret
    exact ⟨ret_int (by rw [sub0_neg]; unfold szMS; omega), Below.refl _ _⟩
  · by_cases hn : 0 < l.length
    · obtain ⟨ad, cap, rfl, hc⟩ := RK_mems h hn
      have Hc := Aside0.mk hc
      clear h hc
      go_enter Try.func36, Try.ntmps36
      go_wp2
      go_loopw [1, 5] (fun v1 v5 wr => ∃ i : Nat, i ≤ l.length ∧ v5 = .int .i64 i ∧ v1 = .int .i64 (left - l.length - sumM (l.take i)) ∧ 0 ≤ left - l.length - sumM (l.take i) ∧ Aside0 (Below w.heap.size w wr)) (fun _ v5 _ => l.length - (intOf v5).toNat)
      case atStart => exact ⟨0, by omega, rfl, by simp [sumM], by simp [sumM]; omega, ⟨Below.refl _ _⟩⟩
      case round =>
        obtain ⟨i, hi, rfl, rfl, hge, hq⟩ := hrel
        by_cases hlt : i < l.length
        · obtain ⟨x, hxi⟩ : ∃ x, l[i]? = some x := ⟨_, List.getElem?_eq_getElem hlt⟩
          obtain ⟨B1, d1, B2, d2, B3, d3, x0, x1, x2, x3, hM⟩ := Hc.out i _ hxi
          replace x0 := (hq.out.cell (lt_of_cell x0)).trans x0
          replace x1 := (hq.out.cell (lt_of_cell x1)).trans x1
          replace x2 := (hq.out.cell (lt_of_cell x2)).trans x2
          replace x3 := (hq.out.cell (lt_of_cell x3)).trans x3
          have RM := Aside0.mk (MemR_below hM hq.out)
          have hs := sumM_succ hxi
          have hle := sumM_le (l := l) (i + 1)
          rw [hs] at hle
          have Hs := Aside0.mk hs
          clear hM hxi hs
          generalize ht : sumM (l.take i) = t at *
          have Ht := Aside0.mk ht
          clear ht
          have i0 : (0 : Int) ≤ (i : Int) := by omega
          have il : (i : Int) < (l.length : Int) := by omega
          by_cases hx : left - (l.length : Int) - (t : Int) - (szM x : Int) < 0
          · go_wp2_with (first | (go_at_call 82; refine (c_szMem RM.out (by omega) (by omega)).mono ?_; rw [sub0_neg hx]; rintro e w1 ⟨rfl, hq2⟩; have Hq2 := Aside0.mk (below_next hq.out hq2); clear hq2) | fail)
            go_ret
            exact ⟨ret_int (by rw [sub0_neg]; unfold szMS; omega), Hq2.out⟩
          · go_wp2_with (first | (go_at_call 82; refine (c_szMem RM.out (by omega) (by omega)).mono ?_; rw [sub0_pos (by omega)]; rintro e w1 ⟨rfl, hq2⟩; have Hq2 := Aside0.mk (below_next hq.out hq2); clear hq2) | fail)
            go_roundw
            case rel => exact ⟨i + 1, by omega, by go_num, by rw [Hs.out]; go_num, by rw [Hs.out]; omega, Hq2⟩
            case measure => simp [intOf]; omega
        · obtain rfl : i = l.length := by omega
          rw [List.take_length] at *
          go_wp2
          go_ret
          exact ⟨ret_int (by rw [sub0_pos] <;> unfold szMS <;> omega), hq.out⟩
    · have h2 : l = [] := List.eq_nil_of_length_eq_zero (by omega)
      subst h2
      obtain ⟨A, ca, rfl, _, _⟩ := h
      go_enter Try.func36, Try.ntmps36
      go_wp2
      refine wp_loop_rounds 1 ?_
      rw [rounds_succ]
      go_wp2
      go_ret
      exact ⟨ret_int (by rw [sub0_pos] <;> simp [szMS, sumM] at * <;> omega), Below.refl _ _⟩
set_option maxHeartbeats 2000000 in
set_option maxRecDepth 100000 in
theorem c_eqMemS {w : World} {v u : Value} {xs ys : List MemV} (hx : RK kMem w v xs) (hy : RK kMem w u ys) :
    Calls Try.prog 43 #[v, u] w fun e w' => e = .returned (.bool (decide (xs = ys))) ∧ Below w.heap.size w w' := by
  have lx := RK_len hx
  have ly := RK_len hy
  by_cases hne : xs.length = ys.length
  · by_cases h0 : 0 < xs.length
    · obtain ⟨a, ca, rfl, ha⟩ := RK_mems hx h0
      obtain ⟨b, cb, rfl, hb⟩ := RK_mems hy (by omega)
      have Ha := Aside0.mk ha
      have Hb := Aside0.mk hb
      have Hne := Aside0.mk hne
      rw [← hne]
      clear ha hb hx hy hne
      go_enter Try.func43, Try.ntmps43
      go_wp2
      go_loopw [5] (fun v5 wr => ∃ i : Nat, i ≤ xs.length ∧ v5 = .int .i64 i ∧ Aside0 (xs.take i = ys.take i) ∧ Aside0 (Below w.heap.size w wr)) (fun v5 _ => xs.length - (intOf v5).toNat)
      case atStart => exact ⟨0, by omega, rfl, ⟨rfl⟩, ⟨Below.refl _ _⟩⟩
      case round =>
        obtain ⟨i, hi, rfl, ht, hq⟩ := hrel
        by_cases hlt : i < xs.length
        · have hlt' : i < ys.length := by have := Hne.out; omega
          obtain ⟨x, hxi⟩ : ∃ x, xs[i]? = some x := ⟨_, List.getElem?_eq_getElem hlt⟩
          obtain ⟨y, hyi⟩ : ∃ y, ys[i]? = some y := ⟨_, List.getElem?_eq_getElem hlt'⟩
          obtain ⟨B1, d1, B2, d2, B3, d3, x0, x1, x2, x3, hM⟩ := Ha.out i x hxi
          obtain ⟨C1, e1, C2, e2, C3, e3, y0, y1, y2, y3, hM2⟩ := Hb.out i y hyi
          replace x0 := (hq.out.cell (lt_of_cell x0)).trans x0
          replace x1 := (hq.out.cell (lt_of_cell x1)).trans x1
          replace x2 := (hq.out.cell (lt_of_cell x2)).trans x2
          replace x3 := (hq.out.cell (lt_of_cell x3)).trans x3
          replace y0 := (hq.out.cell (lt_of_cell y0)).trans y0
          replace y1 := (hq.out.cell (lt_of_cell y1)).trans y1
          replace y2 := (hq.out.cell (lt_of_cell y2)).trans y2
          replace y3 := (hq.out.cell (lt_of_cell y3)).trans y3
          have RX := Aside0.mk (MemR_below hM (Below.drew hq.out))
          have RY := Aside0.mk (MemR_below hM2 (Below.drew hq.out))
          have Hxi := Aside0.mk hxi
          have Hyi := Aside0.mk hyi
          have i0 : (0 : Int) ≤ (i : Int) := by omega
          have il : (i : Int) < (xs.length : Int) := by omega
          clear hxi hyi hM hM2
          go_upto_region 6 with fail
          go_still_tail 8, (by kernel_rfl)
          change wpList _ _ _ _ _ wr.drew
          have Hq2 := Aside0.mk (Below.drew hq.out)
          generalize wr.drew = w2 at *
          by_cases hxy : x = y
          · subst hxy
            go_wp2_with (first | (go_at_call 86; refine (c_eqMem RX.out RY.out).mono ?_; rw [decide_eq_true rfl]; rintro e w3 ⟨rfl, hb⟩; have Hb3 := Aside0.mk (below_next Hq2.out hb); clear hb) | fail)
            go_roundw
            case rel => exact ⟨i + 1, by omega, by go_num, ⟨take_next ht.out Hxi.out Hyi.out⟩, Hb3⟩
            case measure => simp [intOf]; omega
          · have HD := Aside0.mk (show decide (x = y) = false from decide_eq_false hxy)
            have hd2 : decide (xs = ys) = false := by
              rw [decide_eq_false_iff_not]; rintro rfl
              have := Hxi.out.symm.trans Hyi.out
              exact hxy (Option.some.inj this)
            have HD2 := Aside0.mk hd2
            clear hxy hd2
            go_wp2_with (first | (go_at_call 86; refine (c_eqMem RX.out RY.out).mono ?_; rw [HD.out]; rintro e w3 ⟨rfl, hb⟩; have Hb3 := Aside0.mk (below_next Hq2.out hb); clear hb) | fail)
            go_ret
            exact ⟨ret_bool HD2.out.symm, Hb3.out⟩
        · obtain rfl : i = xs.length := by omega
          have hd : decide (xs = ys) = true := by
            rw [decide_eq_true_eq]
            have h1 := ht.out
            have h2 := Hne.out
            rwa [List.take_of_length_le (by omega), List.take_of_length_le (by omega)] at h1
          go_wp2
          go_ret
          exact ⟨ret_bool hd.symm, hq.out⟩
    · have h1 : xs = [] := List.eq_nil_of_length_eq_zero (by omega)
      have h2 : ys = [] := List.eq_nil_of_length_eq_zero (by omega)
      subst h1 h2
      obtain ⟨A, ca, rfl, _, _⟩ := hx
      obtain ⟨B, cb, rfl, _, _⟩ := hy
      go_enter Try.func43, Try.ntmps43
      go_wp2
      refine wp_loop_rounds 1 ?_
      rw [rounds_succ]
      go_wp2
      go_ret
      exact ⟨rfl, Below.refl _ _⟩
  · obtain ⟨A, ca, rfl, _, _⟩ := hx
    obtain ⟨B, cb, rfl, _, _⟩ := hy
    have hd : decide (xs = ys) = false := by rw [decide_eq_false_iff_not]; rintro rfl; exact hne rfl
    go_enter Try.func43, Try.ntmps43
    go_wp2
    go_ret
    exact ⟨ret_bool hd.symm, Below.refl _ _⟩
set_option maxHeartbeats 2000000 in
set_option maxRecDepth 100000 in
theorem c_toMemS {w : World} {v : Value} {xs : List MemV} (h : RK kMem w v xs) (hl : xs.length ≤ 16777216) (hl2 : ∀ x ∈ xs, Small x) :
    Calls Try.prog 39 #[v] w fun e w' => ∃ A c F, e = .returned (.slice A xs.length c) ∧ New w w' (rw_ oMem 57 F (.slice A xs.length c) xs) := by
  have lx := RK_len h
  obtain ⟨A, ca, rfl, hr⟩ := id h
  have H := Aside0.mk h
  have HL := Aside0.mk hl2
  clear h hr hl2
  go_enter Try.func39, Try.ntmps39
  go_wp2_with (first | (refine make_sep oMem (Sep.start w []) rfl rfl 31 57 _ _ rfl xs.length rfl rfl Try.underlying31 (.agg #[.slice none 0 0, .slice none 0 0, .bool false, .slice none 0 0]) 80 (by kernel_rfl) rfl (by decide) (by decide) ⟨[], [], false, []⟩ (fun w' => oMem_M.2 ⟨.slice none 0 0, .slice none 0 0, .slice none 0 0, [], [], [], rfl, rfl, O_nil _ _ _, O_nil _ _ _, O_nil _ _ _⟩) (by omega) ?_; intro w1 g hs1 hg1; have HS1 := Aside0.mk hs1; clear hs1 hg1) | fail)
  go_loopw [4] (fun v4 wr => ∃ i : Nat, i ≤ xs.length ∧ v4 = .int .i64 i ∧ ∃ (ys : List MemV) (F : List Nat), Aside0 (ys.length = xs.length ∧ ys.take i = xs.take i) ∧ Aside0 (Sep w [] wr [rw_ oMem 57 F (.slice (some ⟨g, 0, none⟩) xs.length xs.length) ys])) (fun v4 _ => xs.length - (intOf v4).toNat)
  case atStart => exact ⟨0, by omega, rfl, List.replicate xs.length ⟨[], [], false, []⟩, [g], ⟨by simp, by simp⟩, HS1⟩
  case round =>
    clear HS1
    obtain ⟨i, hi, rfl, ys, F, hy, HR⟩ := hrel
    by_cases hlt : i < xs.length
    · obtain ⟨x, hxi⟩ : ∃ x, xs[i]? = some x := ⟨_, List.getElem?_eq_getElem hlt⟩
      obtain ⟨ad, cap, ha, hc⟩ := RK_mems H.out (by omega)
      obtain rfl := (Value.slice.inj ha).1
      obtain ⟨B1, d1, B2, d2, B3, d3, x0, x1, x2, x3, hM⟩ := hc i x hxi
      replace x0 := HR.out.old x0
      replace x1 := HR.out.old x1
      replace x2 := HR.out.old x2
      replace x3 := HR.out.old x3
      have RM := Aside0.mk (MemR_below hM HR.out.toBelow)
      have hsm := HL.out x (List.mem_of_getElem? hxi)
      have HSM := Aside0.mk hsm
      have Hxi := Aside0.mk hxi
      have hlt' : i < ys.length := by have := hy.out.1; omega
      have i0 : (0 : Int) ≤ (i : Int) := by omega
      have il : (i : Int) < (xs.length : Int) := by omega
      clear ha hc hM hsm hxi
      go_wp2_with (first
        | (go_at_call 84; refine (c_toMem RM.out HSM.out).mono ?_; rintro e w2 ⟨u, G, rfl, hu, hG, hb⟩; have hn := HR.out.new (new_mem hu hG hb); obtain ⟨E1, f1, E2, f2, E3, f3, rfl⟩ := me_form hn; have HN := Aside0.mk hn; obtain ⟨u0, p0, q0⟩ := O_cells (d := oMem) (t := 0) (hn.get 1 rfl) hlt' (by decide); obtain ⟨u1, p1, q1⟩ := O_cells (d := oMem) (t := 1) (hn.get 1 rfl) hlt' (by decide); obtain ⟨u2, p2, q2⟩ := O_cells (d := oMem) (t := 2) (hn.get 1 rfl) hlt' (by decide); obtain ⟨u3, p3, q3⟩ := O_cells (d := oMem) (t := 3) (hn.get 1 rfl) hlt' (by decide); simp only [show oMem.sz = 4 from rfl, Nat.add_zero] at p0 q0 p1 q1 p2 q2 p3 q3; clear hu hG hb hn)
        | fail)
      go_roundw
      case rel =>
        obtain ⟨F', hput⟩ := Sep.put (d := oMem) (i := i) (y := x) (us := [.slice E1 x.secs.length f1, .slice E2 x.cache.length f2, .bool x.failed, .slice E3 x.bad.length f3]) (HN.out.sel [1, 0] (by decide) (by simp)) hlt' (oMem_M.2 (HN.out.get 0 rfl))
        refine ⟨i + 1, by omega, by go_num, ys.set i x, F', ⟨by simp [hy.out.1], ?_⟩, ⟨hput⟩⟩
        rw [List.take_succ_eq_append_getElem (by simp; omega), List.take_set_of_le (Nat.le_refl _), hy.out.2, List.getElem_set_self]
        obtain ⟨h6, h7⟩ := List.getElem?_eq_some_iff.1 Hxi.out
        rw [List.take_succ_eq_append_getElem h6, h7]
      case measure => simp [intOf]; omega
    · obtain rfl : i = xs.length := by omega
      go_wp2
      go_ret
      obtain ⟨h2, h3⟩ := hy.out
      rw [List.take_of_length_le (by omega), List.take_of_length_le (by omega)] at h3
      subst h3
      exact ⟨_, _, _, rfl, HR.out.toNew 0 rfl⟩
end Go.Proofs.Ytggmifnblcjdfaa.AMake
