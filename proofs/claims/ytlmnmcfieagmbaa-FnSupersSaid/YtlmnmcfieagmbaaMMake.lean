/- Contracts of functions that make rows of numbers. -/
import Derived.Test.YtlmnmcfieagmbaaMInt
import Derived.Deep.RegionHeld3
import Derived.Deep.AppendLies
namespace Go.Proofs.Ytlmnmcfieagmbaa.MMake
open Go.RowKit Go.Proofs.YtlmnmcfieagmbaaW.PrintWords Go.Proofs.Ytlmnmcfieagmbaa.Fp Go.Proofs.Ytlmnmcfieagmbaa.MInt
set_option linter.unusedVariables false
set_option linter.unusedSimpArgs false
theorem lit0 {α : Type} (d : Od α) (e : TypeId) (w : World) : d.O e (w.alloc (.cells #[] e)) [w.heap.size] (.slice (some ⟨w.heap.size, 0, none⟩) 0 0) [] :=
  ⟨[], [], ⟨by simp, .inr ⟨w.heap.size, 0, #[], rfl, Nat.zero_le _, heap_alloc_new w _, Nat.le_refl _, Nat.zero_le _, by simp, by simp⟩⟩, rfl, rfl, fun j x G hx => by simp at hx⟩
set_option maxHeartbeats 1000000 in
set_option maxRecDepth 100000 in
theorem c_toIntS {w : World} {v : Value} {xs : List Int} (h : RK (Kd.int .i64) w v xs) (hl : xs.length ≤ 16777216) :
    Calls Try.prog 100 #[v] w fun e w' => ∃ u F, e = .returned u ∧ (Od.int .i64).O 3 w' F u xs ∧ Fresh w F ∧ Below w.heap.size w w' := by
  have lx := RK_len h
  obtain ⟨A, ca, rfl, hr⟩ := id h
  have H := Aside0.mk h
  clear h hr
  have hu := Try.underlying24
  go_enter Try.func100, Try.ntmps100
  go_wp2_with (first | (at_make; refine make_O (Od.int .i64) rfl rfl 24 3 _ _ rfl xs.length rfl rfl Try.underlying24 (.int .i64 0) 8 (by kernel_rfl) rfl (by decide) (by decide) 0 (fun _ => ⟨rfl, rfl⟩) (by omega) ?_; intro w1 ho hb; have HO := Aside0.mk ho; have HB := Aside0.mk hb; clear ho hb) | fail)
  go_loopw [4] (fun v4 wr => ∃ i : Nat, i ≤ xs.length ∧ v4 = .int .i64 i ∧ ∃ ys : List Int, Aside0 (ys.length = xs.length ∧ ys.take i = xs.take i ∧ (Od.int .i64).O 3 wr [w.heap.size] (.slice (some ⟨w.heap.size, 0, none⟩) xs.length xs.length) ys ∧ Below w.heap.size w wr)) (fun v4 _ => xs.length - (intOf v4).toNat)
  case atStart => exact ⟨0, by omega, rfl, List.replicate xs.length 0, ⟨by simp, by simp, HO.out, HB.out⟩⟩
  case round =>
    obtain ⟨i, hi, rfl, ys, hr⟩ := hrel
    by_cases hlt : i < xs.length
    · obtain ⟨x, hxi⟩ : ∃ x, xs[i]? = some x := ⟨_, List.getElem?_eq_getElem hlt⟩
      obtain ⟨ad, cap, ha, hc⟩ := ints_at (RK_below H.out hr.out.2.2.2) (by omega)
      cases ha
      have ca := hc i x hxi
      have Hxi := Aside0.mk hxi
      clear hxi hc
      have hlt' : i < ys.length := by have := hr.out.1; omega
      obtain ⟨c1, c2⟩ := O_int_cell hr.out.2.2.1 hlt'
      go_wp2
      go_roundw
      case rel =>
        have h3 := O_int_set hr.out.2.2.1 hlt' x
        refine ⟨i + 1, by omega, by go_num, ys.set i x, ⟨by simp [hr.out.1], ?_, ?_, ?_⟩⟩
        · rw [List.take_succ_eq_append_getElem (by simp; omega), List.take_set_of_le (Nat.le_refl _), hr.out.2.1, List.getElem_set_self]
          obtain ⟨h4, h5⟩ := List.getElem?_eq_some_iff.1 Hxi.out
          rw [List.take_succ_eq_append_getElem h4, h5]
        · exact h3
        · exact below_set hr.out.2.2.2 (Nat.le_refl _)
      case measure => simp [intOf]; omega
    · obtain rfl : i = xs.length := by omega
      go_wp2
      go_ret
      obtain ⟨h2, h3, h4, h5⟩ := hr.out
      rw [List.take_of_length_le (by omega), List.take_of_length_le (by omega)] at h3
      subst h3
      exact ⟨_, _, rfl, h4, ⟨by simp, by simp⟩, h5⟩
theorem c_copyInts {w : World} {v : Value} {xs : List Int} (h : RK (Kd.int .i64) w v xs) (hl : xs.length ≤ 16777216) :
    Calls Try.prog 118 #[v] w fun e w' => ∃ u F, e = .returned u ∧ (Od.int .i64).O 3 w' F u xs ∧ Fresh w F ∧ Below w.heap.size w w' := by
  obtain ⟨A, ca, rfl, hr⟩ := id h
  have H := Aside0.mk h
  clear h hr
  have hu := Try.underlying24
  go_enter Try.func118, Try.ntmps118
  go_wp2_with (first | (at_builtin; refine append_ints .i64 rfl _ _ 24 3 8 rfl Try.underlying24 (by kernel_rfl) (by decide) _ _ [] xs _ (by rfl) (by rfl) (lit0 (Od.int .i64) 3 w) (RK_below H.out (below_alloc (Below.refl _ _) _)) (by simp; omega) ?_; intro v1 w1 F1 ho hnd hF hc; have HO := Aside0.mk ho; have HC := Aside0.mk hc; have HN := Aside0.mk hnd; have HF := Aside0.mk hF; clear ho hc hnd hF) | fail)
  go_ret
  refine ⟨_, _, rfl, HO.out, ⟨HN.out, fun k hk => ?_⟩, Chg.below (below_alloc (Below.refl _ _) _) HC.out (by simp)⟩
  rcases HF.out k hk with h1 | h1
  · simp at h1; omega
  · simp at h1; omega
set_option maxHeartbeats 1000000 in
set_option maxRecDepth 100000 in
theorem c_l2Without {w : World} {v : Value} {xs : List Int} {n : Int} (h : RK (Kd.int .i64) w v xs) (hl : xs.length ≤ 16777216) :
    Calls Try.prog 125 #[v, .int .i64 n] w fun e w' => ∃ u F, e = .returned u ∧ (Od.int .i64).O 3 w' F u (xs.filter (fun x => !(x == n))) ∧ Fresh w F ∧ Below w.heap.size w w' := by
  have lx := RK_len h
  obtain ⟨A, ca, rfl, hr⟩ := id h
  have H := Aside0.mk h
  clear h hr
  have hu := Try.underlying24
  go_enter Try.func125, Try.ntmps125
  go_wp2
  go_loopw [5, 6] (fun v5 v6 wr => ∃ i : Nat, i ≤ xs.length ∧ v6 = .int .i64 i ∧ ∃ F, Aside0 ((Od.int .i64).O 3 wr F v5 ((xs.take i).filter (fun x => !(x == n))) ∧ Fresh w F ∧ Below w.heap.size w wr)) (fun _ v6 _ => xs.length - (intOf v6).toNat)
  case atStart => exact ⟨0, by omega, rfl, _, ⟨lit0 (Od.int .i64) 3 w, ⟨by simp, by simp⟩, below_alloc (Below.refl _ _) _⟩⟩
  case round =>
    obtain ⟨i, hi, rfl, F, hr⟩ := hrel
    by_cases hlt : i < xs.length
    · obtain ⟨x, hxi⟩ : ∃ x, xs[i]? = some x := ⟨_, List.getElem?_eq_getElem hlt⟩
      obtain ⟨ad, cap, ha, hc⟩ := ints_at (RK_below H.out hr.out.2.2) (by omega)
      cases ha
      have ca := hc i x hxi
      have Hxi := Aside0.mk hxi
      clear hxi hc
      have hstep : xs.take (i + 1) = xs.take i ++ [x] := by
        obtain ⟨h4, h5⟩ := List.getElem?_eq_some_iff.1 Hxi.out
        rw [List.take_succ_eq_append_getElem h4, h5]
      have Hs := Aside0.mk hstep
      clear hstep
      by_cases hxy : x = n
      · subst hxy
        go_wp2
        go_roundw
        case rel => exact ⟨i + 1, by omega, by go_num, F, ⟨by rw [Hs.out, List.filter_append]; simpa using hr.out.1, hr.out.2.1, hr.out.2.2⟩⟩
        case measure => simp [intOf]; omega
      · have hxy' : (x == n) = false := by simpa using hxy
        go_wp2_with (first | (at_builtin; refine append_O (Od.int .i64) rfl _ _ 24 3 (.int .i64 0) 8 rfl Try.underlying24 (by kernel_rfl) rfl (by decide) (by decide) _ _ F x [] [.int .i64 x] (by rfl) (by rfl) hr.out.1 hr.out.2.1.1 ⟨rfl, rfl⟩ List.nodup_nil (by simp) (by have := List.length_filter_le (fun x => !(x == n)) (xs.take i); simp only [List.length_take] at this; omega) ?_; intro v1 w1 F1 ho hnd hF hc; have HO := Aside0.mk ho; have HC := Aside0.mk hc; have HN := Aside0.mk hnd; have HF := Aside0.mk hF; clear ho hc hnd hF) | fail)
        go_roundw
        case rel =>
          refine ⟨i + 1, by omega, by go_num, F1, ⟨by rw [Hs.out, List.filter_append]; simpa [hxy'] using HO.out, ⟨HN.out, fun k hk => ?_⟩, Chg.below hr.out.2.2 HC.out hr.out.2.1.2⟩⟩
          rcases HF.out k hk with h1 | h1 | h1
          · exact hr.out.2.1.2 k h1
          · simp at h1
          · have := hr.out.2.2.size; omega
        case measure => simp [intOf]; omega
    · obtain rfl : i = xs.length := by omega
      go_wp2
      go_ret
      obtain ⟨h2, h3, h4⟩ := hr.out
      rw [List.take_of_length_le (by omega)] at h2
      exact ⟨_, _, rfl, h2, h3, h4⟩
end Go.Proofs.Ytlmnmcfieagmbaa.MMake
