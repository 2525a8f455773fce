/- slices.DeleteFunc of numbers, where what is struck is one number. -/
import Derived.Test.YtlmnmcfieagmbaaSepMore
import Derived.Test.YtlmnmcfieagmbaaMVal
import Derived.Lib.SliceRun
namespace Go.Proofs.Ytlmnmcfieagmbaa.MDel
open Go.RowKit Go.Proofs.Ytlmnmcfieagmbaa.RJ Go.Proofs.YtlmnmcfieagmbaaW.PrintWords Go.Proofs.Ytlmnmcfieagmbaa.Fp Go.Proofs.Ytlmnmcfieagmbaa.FpStep Go.Proofs.Ytlmnmcfieagmbaa.MInt Go.Proofs.Ytlmnmcfieagmbaa.MKinds Go.Proofs.Ytlmnmcfieagmbaa.MRead Go.Proofs.Ytlmnmcfieagmbaa.MMake Go.Proofs.Ytlmnmcfieagmbaa.MPut Go.Proofs.Ytlmnmcfieagmbaa.MVal Go.Proofs.Ytlmnmcfieagmbaa.Sep Go.Proofs.Ytlmnmcfieagmbaa.SepStep
set_option linter.unusedVariables false
set_option linter.unusedSimpArgs false
theorem c_isn {w : World} {x n : Int} {b : Nat} (h : w.cell? ⟨b, 0, none⟩ = some (.int .i64 n)) :
    Calls Try.prog 124 #[.int .i64 x, .pointer (some ⟨b, 0, none⟩)] w fun e w' => e = .returned (.bool (x == n)) ∧ ∃ q, w' = w.drewN q := by
  go_enter Try.func124, Try.ntmps124
  go_wp2
  go_ret
  exact ⟨rfl, 0, rfl⟩
/-- Where a number first stands; -1 where it does not. -/
def firstAt (n : Int) : List Int → Int
  | [] => -1
  | x :: l => if x == n then 0 else (if firstAt n l == -1 then -1 else firstAt n l + 1)
set_option maxHeartbeats 1000000 in
theorem c_IndexFunc {w : World} {v : Value} {xs : List Int} {n : Int} {b : Nat} (h : RK kInt w v xs) (hb : w.cell? ⟨b, 0, none⟩ = some (.int .i64 n)) :
    Calls Try.prog 151 #[v, .func (.func 124) #[] #[.pointer (some ⟨b, 0, none⟩)]] w fun e w' =>
      ((e = .returned (.int .i64 (-1)) ∧ xs.all (fun x => !(x == n)) = true) ∨ (∃ k : Nat, k < xs.length ∧ e = .returned (.int .i64 (k : Int)) ∧ (xs.take k).all (fun x => !(x == n)) = true ∧ xs[k]? = some n)) ∧ ∃ q, w' = w.drewN q := by
  have lx := RK_len h
  by_cases hn : 0 < xs.length
  · obtain ⟨ad, cap, rfl, hc⟩ := ints_at h hn
    have Hc := Aside0.mk hc
    have Hb := Aside0.mk hb
    clear h hc hb
    go_enter Try.func151, Try.ntmps151
    go_wp2
    go_loopw [8] (fun v8 wr => ∃ i : Nat, i ≤ xs.length ∧ v8 = .int .i64 i ∧ Aside0 ((xs.take i).all (fun x => !(x == n)) = true) ∧ Aside0 (Dr w wr)) (fun v8 _ => xs.length - (intOf v8).toNat)
    case atStart => exact ⟨0, by omega, rfl, ⟨by simp⟩, ⟨Dr.refl _⟩⟩
    case round =>
      obtain ⟨i, hi, rfl, ht, hd⟩ := hrel
      by_cases hlt : i < xs.length
      · obtain ⟨x, hxi⟩ : ∃ x, xs[i]? = some x := ⟨_, List.getElem?_eq_getElem hlt⟩
        have ca := hd.out.cell (Hc.out i x hxi)
        have Hxi := Aside0.mk hxi
        clear hxi
        by_cases hxy : x = n
        · subst hxy
          have hT : (x == x) = true := by simp
          go_wp2_with (first | (go_at_call 124; refine (c_isn (hd.out.cell Hb.out)).mono ?_; rw [hT]; rintro e w1 ⟨rfl, hq⟩; have HQ := Aside0.mk (hd.out.trans hq); clear hq) | fail)
          go_ret
          exact ⟨.inr ⟨i, hlt, rfl, ht.out, Hxi.out⟩, HQ.out⟩
        · have hxy' : (x == n) = false := by simpa using hxy
          go_wp2_with (first | (go_at_call 124; refine (c_isn (hd.out.cell Hb.out)).mono ?_; rw [hxy']; rintro e w1 ⟨rfl, hq⟩; have HQ := Aside0.mk (hd.out.trans hq); clear hq) | fail)
          go_roundw
          case rel => exact ⟨i + 1, by omega, by go_num, ⟨all_take ht.out Hxi.out (by simp [hxy'])⟩, HQ⟩
          case measure => simp [intOf]; omega
      · obtain rfl : i = xs.length := by omega
        have hd2 : xs.all (fun x => !(x == n)) = true := by
          have h1 := ht.out
          rwa [List.take_of_length_le (by omega)] at h1
        go_wp2
        go_ret
        exact ⟨.inl ⟨rfl, hd2⟩, hd.out⟩
  · have h2 : xs = [] := List.eq_nil_of_length_eq_zero (by omega)
    subst h2
    obtain ⟨A, ca, rfl, _, _⟩ := h
    go_enter Try.func151, Try.ntmps151
    go_wp2
    refine wp_loop_rounds 1 ?_
    rw [rounds_succ]
    go_wp2
    go_ret
    exact ⟨.inl ⟨rfl, rfl⟩, 0, rfl⟩
theorem O_int_tail {k : IntKind} {e : TypeId} {w : World} {F : List Nat} {g n cap : Nat} {l : List Int} (h : (Od.int k).O e w F (.slice (some ⟨g, 0, none⟩) n cap) l) {i : Nat} (vs : List Value) (hi : i + vs.length = l.length) :
    (Od.int k).O e (w.setCells g i vs) F (.slice (some ⟨g, 0, none⟩) i cap) (l.take i) := by
  obtain ⟨hr, rfl⟩ := O_int_row h
  obtain ⟨hl, hr⟩ := hr
  rcases hr with ⟨h', _⟩ | ⟨g', cap', cur, h', hb, hg, hn, hc, hs, ht⟩
  · simp at h'
  · simp only [Value.slice.injEq, Option.some.injEq, Addr.mk.injEq, and_true, true_and] at h'
    obtain ⟨rfl, hn2, rfl⟩ := h'
    obtain ⟨cur', h3, h4, h5⟩ := setCells_row vs i w cur hg (by rw [hs]; omega)
    have hti : (l.take i).length = i := by rw [List.length_take]; omega
    refine O_int k ⟨by simp [nums]; omega, .inr ⟨g, cap, cur', rfl, hb, h3, by omega, hc, by rw [h4, hs], ?_⟩⟩ hti.symm
    rw [h5, Nat.mul_one, List.append_assoc, List.take_append_of_le_length (by rw [List.length_take, Array.length_toList, hs]; omega), List.take_take, Nat.min_self]
    have h6 : (cur.toList.take (l.length * 1)).take i = (nums k l).take i := by rw [ht]
    rw [List.take_take, Nat.mul_one, Nat.min_eq_left (by omega)] at h6
    rw [h6]; simp [nums, List.map_take]
theorem O_int_cut {k : IntKind} {e : TypeId} {w : World} {F : List Nat} {g n cap : Nat} {l : List Int} (h : (Od.int k).O e w F (.slice (some ⟨g, 0, none⟩) n cap) l) {i : Nat} (hi : i ≤ l.length) :
    (Od.int k).O e w F (.slice (some ⟨g, 0, none⟩) i cap) (l.take i) := by
  obtain ⟨hr, rfl⟩ := O_int_row h
  obtain ⟨hl, hr⟩ := hr
  rcases hr with ⟨h', _⟩ | ⟨g', cap', cur, h', hb, hg, hn, hc, hs, ht⟩
  · simp at h'
  · simp only [Value.slice.injEq, Option.some.injEq, Addr.mk.injEq, and_true, true_and] at h'
    obtain ⟨rfl, hn2, rfl⟩ := h'
    have hti : (l.take i).length = i := by rw [List.length_take]; omega
    refine O_int k ⟨by simp [nums]; omega, .inr ⟨g, cap, cur, rfl, hb, hg, by omega, hc, hs, ?_⟩⟩ hti.symm
    have h6 : (cur.toList.take (l.length * 1)).take i = (nums k l).take i := by rw [ht]
    rw [List.take_take, Nat.mul_one, Nat.min_eq_left (by omega)] at h6
    rw [Nat.mul_one, h6]; simp [nums, List.map_take]
theorem drop_succ_ {ys xs : List Int} {j : Nat} (h : ys.drop j = xs.drop j) : ys.drop (j + 1) = xs.drop (j + 1) := by
  have := congrArg (List.drop 1) h
  simpa [List.drop_drop] using this
theorem chg_cells {S : List Nat} {a w : World} {g : Nat} (h : Chg S a w) (hg : g ∈ S) (o : Nat) (vs : List Value) : Chg S a (w.setCells g o vs) := by
  obtain ⟨h1, h2, h3, h4⟩ := setCells_same g vs o w
  exact h.trans ⟨h1, h2, h3, by rw [h4]; exact Nat.le_refl _, fun k _ hn => setCells_far vs o k (fun e => hn (e ▸ hg))⟩
theorem filter_all {l : List Int} {n : Int} (h : l.all (fun x => !(x == n)) = true) : l.filter (fun x => !(x == n)) = l := List.filter_eq_self.2 (fun x hx => List.all_eq_true.1 h x hx)
set_option maxHeartbeats 2000000 in
theorem c_DeleteFunc {w : World} {v : Value} {F : List Nat} {xs : List Int} {n : Int} {b : Nat} (h : oInt.O 3 w F v xs) (hnd : F.Nodup) (hb : w.cell? ⟨b, 0, none⟩ = some (.int .i64 n)) (hbF : b ∉ F) :
    Calls Try.prog 123 #[v, .func (.func 124) #[] #[.pointer (some ⟨b, 0, none⟩)]] w fun e w' =>
      ∃ u, e = .returned u ∧ Upd w w' F (rw_ oInt 3 F u (without xs n)) := by
  have hR := O_RK h
  have lx := RK_len hR
  have Hb := Aside0.mk hb
  have HO := Aside0.mk h
  have Hn := Aside0.mk (And.intro hnd hbF)
  clear hb hbF hnd
  by_cases hall : xs.all (fun x => !(x == n)) = true
  · obtain ⟨A, c, rfl, _⟩ := id hR
    have HR := Aside0.mk hR
    have Hall := Aside0.mk hall
    clear h hR hall
    go_enter Try.func123, Try.ntmps123
    go_wp2_with (first | (go_at_call 151; refine (c_IndexFunc HR.out Hb.out).mono ?_; rintro e w1 ⟨hor, hq⟩; obtain rfl : e = .returned (.int .i64 (-1)) := (by rcases hor with ⟨q, _⟩ | ⟨k, hk, _, _, q⟩; exact q; exact absurd (List.all_eq_true.1 Hall.out n (List.mem_of_getElem? q)) (by simp)); have HQ := Aside0.mk hq; clear hor hq) | fail)
    go_ret
    refine ⟨_, rfl, ?_⟩
    obtain ⟨q, rfl⟩ := HQ.out
    unfold without
    rw [filter_all Hall.out]
    exact ⟨(Chg.refl _ _).drewN q, Hn.out.1, fun k hk => .inl hk, (lies_row HO.out).drewN q⟩
  · have hx0 : 0 < xs.length := by
      rcases Nat.eq_zero_or_pos xs.length with h0 | h0
      · rw [List.eq_nil_of_length_eq_zero h0] at hall; exact absurd rfl hall
      · exact h0
    obtain ⟨g, cap, rfl, hg, cur, hcur⟩ := O_form h hx0
    have hcap : xs.length ≤ cap := by obtain ⟨_, _, e, hc, _⟩ := hR; cases e; exact hc
    have Hg := Aside0.mk hg
    have HR := Aside0.mk hR
    have Hall := Aside0.mk hall
    clear h hR hall hcur hg
    have c0 : (0 : Int) ≤ (cap : Int) := by omega
    go_enter Try.func123, Try.ntmps123
    go_upto_region 2 with (first | (go_at_call 151; refine (c_IndexFunc HR.out Hb.out).mono ?_; rintro e w1 ⟨hor, hq⟩; obtain ⟨k, hk, rfl, hk1, hk2⟩ : ∃ k : Nat, k < xs.length ∧ e = .returned (.int .i64 (k : Int)) ∧ (xs.take k).all (fun x => !(x == n)) = true ∧ xs[k]? = some n := (by rcases hor with ⟨_, q⟩ | q; exact absurd q Hall.out; exact q); have HQ := Aside0.mk hq; have HK := Aside0.mk (And.intro hk1 hk2); clear hor hq hk1 hk2) | fail)
    have hne : ((k : Int) == -1) = false := by simp
    go_wp2
    go_loopw [5, 6] (fun v5 v6 wr => ∃ i j : Nat, i < j ∧ j ≤ xs.length ∧ v5 = .int .i64 i ∧ v6 = .int .i64 j ∧ ∃ ys : List Int, Aside0 (ys.length = xs.length ∧ ys.take i = without (xs.take j) n ∧ ys.drop j = xs.drop j ∧ oInt.O 3 wr F (.slice (some ⟨g, 0, none⟩) xs.length cap) ys ∧ Chg F w wr)) (fun _ v6 _ => xs.length - (intOf v6).toNat)
    case atStart =>
      refine ⟨k, k + 1, by omega, by omega, rfl, by go_num, xs, ⟨rfl, ?_, rfl, ?_, ?_⟩⟩
      · rw [take_snoc HK.out.2]; unfold without; rw [List.filter_append, filter_all HK.out.1]; simp
      · obtain ⟨q, rfl⟩ := HQ.out; exact O_move HO.out (fun _ _ => rfl)
      · obtain ⟨q, rfl⟩ := HQ.out; exact (Chg.refl _ _).drewN q
    case round =>
      obtain ⟨i, j, hij, hj, rfl, rfl, ys, hr⟩ := hrel
      have hyl := hr.out.1
      by_cases hlt : j < xs.length
      · obtain ⟨x, hxj⟩ : ∃ x, xs[j]? = some x := ⟨_, List.getElem?_eq_getElem hlt⟩
        have hyj : ys[j]? = some x := by
          have h1 := congrArg (fun l => l[0]?) hr.out.2.2.1
          simpa [List.getElem?_drop, hxj] using h1
        obtain ⟨hyj1, hyj2⟩ := List.getElem?_eq_some_iff.1 hyj
        have cj := (O_int_cell hr.out.2.2.2.1 (i := j) (by omega)).1
        rw [hyj2] at cj
        have ci := O_int_cell hr.out.2.2.2.1 (i := i) (by omega)
        obtain ⟨ci1, ci2⟩ := ci
        have hbc : wr.cell? ⟨b, 0, none⟩ = some (.int .i64 n) := by
          have hlt := World.block_lt_of_cell? w _ Hb.out
          have := hr.out.2.2.2.2.block b hlt Hn.out.2
          rw [← Hb.out]; simp [World.cell?, this]
        have Hxj := Aside0.mk hxj
        have HB := Aside0.mk hbc
        clear hxj hyj hyj2 hbc
        have j0 : (0 : Int) ≤ (j : Int) := by omega
        by_cases hxy : x = n
        · subst hxy
          have hT : (x == x) = true := by simp
          go_wp2_with (first | (go_at_call 124; refine (c_isn HB.out).mono ?_; rw [hT]; rintro e w1 ⟨rfl, hq⟩; obtain ⟨q, rfl⟩ := hq) | fail)
          go_roundw
          case rel =>
            obtain ⟨h1, h2, h3, h4, h5⟩ := hr.out
            refine ⟨i, j + 1, by omega, by omega, rfl, by go_num, ys, ⟨h1, ?_, ?_, O_move h4 (fun _ _ => rfl), h5.drewN q⟩⟩
            · rw [h2, take_snoc Hxj.out]; simp [without]
            · exact drop_succ_ h3
          case measure => simp [intOf]; omega
        · have hxy' : (x == n) = false := by simpa using hxy
          go_wp2_with (first | (go_at_call 124; refine (c_isn HB.out).mono ?_; rw [hxy']; rintro e w1 ⟨rfl, hq⟩; obtain ⟨q, rfl⟩ := hq) | fail)
          go_roundw
          case rel =>
            obtain ⟨h1, h2, h3, h4, h5⟩ := hr.out
            have h6 : oInt.O 3 (wr.drewN q) F (.slice (some ⟨g, 0, none⟩) xs.length cap) ys := O_move h4 (fun _ _ => rfl)
            refine ⟨i + 1, j + 1, by omega, by omega, by go_num, by go_num, ys.set i x, ⟨by simp [h1], ?_, ?_, O_int_set h6 (by omega) x, (h5.drewN q).set (.inl Hg.out) _⟩⟩
            · rw [List.take_succ_eq_append_getElem (by simp; omega), List.take_set_of_le (Nat.le_refl _), h2, List.getElem_set_self, take_snoc Hxj.out]
              simp [without, hxy']
            · rw [List.drop_set_of_lt (by omega)]; exact drop_succ_ h3
          case measure => simp [intOf]; omega
      · obtain rfl : j = xs.length := by omega
        obtain ⟨h1, h2, h3, h4, h5⟩ := hr.out
        have hcl := Go.Lib.run_clear_slice (P := Try.prog) wr 24 3 0 (.int .i64 0) Try.underlying24 (fun w => by kernel_rfl) rfl rfl g i (xs.length - i) (cap - i) (by omega)
          (fun q hq => by rw [(O_int_cell h4 (i := i + q) (by omega)).1]; rfl) (fun q hq => (O_int_cell h4 (i := i + q) (by omega)).2)
        have i0 : (0 : Int) ≤ (i : Int) := by omega
        have i1 : (i : Int) ≤ (xs.length : Int) := by omega
        have i2 : (xs.length : Int) ≤ (cap : Int) := by omega
        clear h1 h2 h3 h4 h5
        go_wp2
        go_ret
        obtain ⟨h1, h2, h3, h4, h5⟩ := hr.out
        rw [List.take_length] at h2
        refine ⟨_, rfl, chg_cells h5 Hg.out i (List.replicate (xs.length - i) (.int .i64 0)), Hn.out.1, fun k hk => .inl hk, lies_row ?_⟩
        have h6 := O_int_tail h4 (i := i) (List.replicate (xs.length - i) (.int .i64 0)) (by simp; omega)
        rw [h2] at h6
        exact h6
end Go.Proofs.Ytlmnmcfieagmbaa.MDel
