/- DrawGetSuper: words, bent or not. -/
import Derived.Test.YtlmnmcfieagmbaaMDraw9
namespace Go.Proofs.Ytlmnmcfieagmbaa.MDrawA
open Go.RowKit Go.Proofs.Ytlmnmcfieagmbaa.RJ Go.Proofs.Ytlmnmcfieagmbaa.RP Go.Proofs.YtlmnmcfieagmbaaW.PrintWords Go.Proofs.Ytlmnmcfieagmbaa.Fp Go.Proofs.Ytlmnmcfieagmbaa.FpStep Go.Proofs.Ytlmnmcfieagmbaa.MInt Go.Proofs.Ytlmnmcfieagmbaa.MKinds Go.Proofs.Ytlmnmcfieagmbaa.MRead Go.Proofs.Ytlmnmcfieagmbaa.MMake Go.Proofs.Ytlmnmcfieagmbaa.MPut Go.Proofs.Ytlmnmcfieagmbaa.MSuper Go.Proofs.Ytlmnmcfieagmbaa.Sep Go.Proofs.Ytlmnmcfieagmbaa.SepStep Go.Proofs.Ytlmnmcfieagmbaa.MDraw Go.Proofs.Ytlmnmcfieagmbaa.MDraw2 Go.Proofs.Ytlmnmcfieagmbaa.MVal Go.Proofs.Ytlmnmcfieagmbaa.MValB Go.Proofs.Ytlmnmcfieagmbaa.MDraw7 Go.Proofs.Ytlmnmcfieagmbaa.MDraw8 Go.Proofs.Ytlmnmcfieagmbaa.MDraw9
set_option linter.unusedVariables false
set_option linter.unusedSimpArgs false
attribute [local go_sem ↓] Go.wp_at_zero Go.wp_at_succ
theorem sup_range {s : SupV} (h : supB s = true) : ∀ z ∈ putSup s, -1 ≤ z ∧ z ≤ 60001 := by
  intro z hz
  have h1 : putSup s = supL s := by unfold putSup; rw [if_pos h]
  rw [h1] at hz
  simp only [supB, lostB, geoB, inR, Bool.and_eq_true, decide_eq_true_eq] at h
  simp only [supL, List.mem_cons, List.not_mem_nil, or_false] at hz
  omega
theorem RK_take {w : World} {A : Option Addr} {n c k : Nat} {ys : List Int} (h : RK kInt w (.slice A n c) ys) (hk : k ≤ ys.length) : RK kInt w (.slice A k c) (ys.take k) := by
  obtain ⟨A', c', hv, hl, h1, h2, h3⟩ := h
  obtain ⟨rfl, rfl, rfl⟩ := Value.slice.inj hv
  have hn : (ys.take k).length = k := by simp; omega
  refine ⟨A, c, by rw [hn], by rw [hn]; omega, ⟨hn.symm ▸ rfl, ?_, fun hpos => ?_⟩⟩
  · rw [hn] at *; exact Nat.le_trans (by omega) h2
  · obtain ⟨ad, rfl, hc⟩ := h3 (by omega)
    refine ⟨ad, rfl, fun j x hj => hc j x ?_⟩
    rw [List.getElem?_take] at hj
    split at hj
    · exact hj
    · cases hj
set_option maxHeartbeats 4000000 in
theorem c_DrawGetSuper {w : World} {B : Value} {bs : List Int} (hB : RK (Kd.int .u8) w B bs) (hl : bs.length ≤ 16777216) :
    Calls Try.prog 43 #[B] w fun e w' => ∃ (A : Option Addr) (n c : Nat) (F : List Nat) (ys : List Int), e = .returned (.slice A n c) ∧ n ≤ ys.length ∧ ys.length = 9 ∧ (∀ z ∈ ys, -1 ≤ z ∧ z ≤ 60001) ∧ Sep w [] w' [rw_ oInt 3 F (.slice A 9 c) ys] := by
  have HB := Aside0.mk hB
  obtain ⟨BA, Bc, rfl, _, _⟩ := hB
  go_enter Try.func43, Try.ntmps43
  go_upto_region 4 with (first
    | (go_at_call 129; refine (c_l1Below HS3.out HB.out hi2 (by omega)).mono ?_; rintro e w4 ⟨x, i4, h4, rfl, x0, x1, hi4, hs⟩; have x2 := x1 (by omega); have HS4 := Aside0.mk hs; clear hs x1)
    | (go_at_call 127; refine (c_specPutSuper _ _ _ _ _ _ _ _ _).mono ?_; rw [HP.out]; rintro e w3 ⟨u3, F3, rfl, hn⟩; obtain ⟨A, c, rfl, hz⟩ := O_reads (show oInt.O 3 w3 F3 u3 _ from hn.lies.now); clear hz; have hq := (HS2.out.new hn).perm (List.Perm.swap _ _ _); have HS3 := Aside0.mk hq; clear hq hn)
    | (go_at_call 128; refine (c_l4Draw HS1.out HB.out hi1).mono ?_; rintro e w2 ⟨s, i2, h2, he, hsup, hi2, hs⟩; simp only [supA] at he; subst he; have HS2 := Aside0.mk hs; clear hs; obtain ⟨ys, hys⟩ : ∃ ys, putSup ⟨s.id, s.gen, s.role, s.n, s.st, s.tail, s.lost, s.built⟩ = ys := ⟨_, rfl⟩; have HP := Aside0.mk hys; have hy9 : ys.length = 9 := (by rw [← hys]; unfold putSup; rw [if_pos hsup]; rfl); have HYB := Aside0.mk (show ∀ z ∈ ys, -1 ≤ z ∧ z ≤ 60001 from (by rw [← hys]; exact sup_range hsup)); clear hys hsup)
    | (go_at_call 114; refine (c_l1New HB.out hl).mono ?_; rintro e w1 ⟨g, h1, rfl, hs1⟩; have hi1 : (0 : Int) ≤ 0 ∧ (0 : Int) ≤ (bs.length : Int) := ⟨Int.le_refl _, by omega⟩; have HS1 := Aside0.mk hs1; clear hs1)
    | fail)
  rw [hy9] at HS4
  clear HS1 HS2 HS3
  obtain rfl | rfl | hx : x = 0 ∨ x = 1 ∨ 1 < x := by omega
  · obtain ⟨g1, cap9, hv9, _, _⟩ := O_form (show oInt.O 3 w4 F3 (.slice A ys.length c) ys by rw [hy9]; exact HS4.out.get 1 rfl) (by omega)
    obtain rfl := (Value.slice.inj hv9).1
    clear hv9
    go_wp2_with (first
      | (go_at_call 119; have hn := new_lit HS5.out (g := w5.heap.size) rfl 3 (#[.int .i64 0, .int .i64 1, .int .i64 4, .int .i64 9, .int .i64 60001, .int .i64 (-1)]) (l := [0, 1, 4, 9, 60001, -1]) (n := 6) rfl rfl (by decide); have hn2 := hn.perm (List.Perm.swap _ _ _); refine (c_l1Int hn2 HB.out hi5 (fun w' hw => O_RK (hw.get 0 rfl)) (by decide)).mono ?_; rintro e w6 ⟨y, i6, h6, rfl, hy, hi6, hs⟩; have HS6 := Aside0.mk hs; have HYY := Aside0.mk (show -1 ≤ y ∧ y ≤ 60001 from (by simp at hy; omega)); clear hs hn hn2 hy; obtain ⟨c1, c2⟩ := O_int_cell (HS6.out.get 2 rfl) (i := kn) (by omega))
      | (go_at_call 129; refine (c_l1Below HS4.out HB.out hi4 (by omega)).mono ?_; rintro e w5 ⟨k, i5, h5, rfl, k0, k1, hi5, hs⟩; have k2 := k1 (by omega); have HS5 := Aside0.mk hs; clear hs k1; obtain ⟨kn, rfl⟩ : ∃ kn : Nat, k = (kn : Int) := ⟨k.toNat, by omega⟩)
      | fail)
    go_ret
    have HE := HS6.out.seti 2 rfl (j := kn) (by omega) y
    have h9 := HE.sel [2] (by decide) (by simp)
    simp only [List.map_cons, List.map_nil, pick, List.getD_cons_succ, List.getD_cons_zero, List.set_cons_zero, List.set_cons_succ, List.eraseIdx_cons_zero, List.eraseIdx_cons_succ, List.setIfInBounds_toArray] at h9
    exact ⟨_, 9, c, F3, ys.set kn y, rfl, by simp; omega, by simp; omega, fun z hz => (List.mem_or_eq_of_mem_set hz).elim (HYB.out z) (fun e => e ▸ HYY.out), h9⟩
  · have hcap : 9 ≤ c := by
      obtain ⟨A', c', hv, hl9, _⟩ := O_RK (show oInt.O 3 w4 F3 (.slice A 9 c) ys from HS4.out.get 1 rfl)
      obtain ⟨_, _, rfl⟩ := Value.slice.inj hv
      omega
    obtain ⟨g1, cap9, hv9, _, _⟩ := O_form (show oInt.O 3 w4 F3 (.slice A ys.length c) ys by rw [hy9]; exact HS4.out.get 1 rfl) (by omega)
    obtain rfl := (Value.slice.inj hv9).1
    clear hv9
    go_wp2_with (first
      | (go_at_call 129; refine (c_l1Below HS4.out HB.out hi4 (by omega)).mono ?_; rintro e w5 ⟨k, i5, h5, rfl, k0, k1, hi5, hs⟩; have k2 := k1 (by omega); have HS5 := Aside0.mk hs; clear hs k1; obtain ⟨kn, rfl⟩ : ∃ kn : Nat, k = (kn : Int) := ⟨k.toNat, by omega⟩; have k3 : (kn : Int) ≤ (c : Int) := (by omega))
      | fail)
    go_ret
    have h9 := HS5.out.sel [1] (by decide) (by simp)
    simp only [List.map_cons, List.map_nil, pick, List.getD_cons_succ, List.getD_cons_zero, List.set_cons_zero, List.set_cons_succ, List.eraseIdx_cons_zero, List.eraseIdx_cons_succ, List.setIfInBounds_toArray] at h9
    first | exact ⟨_, kn, c, F3, ys, rfl, by omega, hy9, HYB.out, h9⟩ | (trace_state; fail)
  · have e0 : ¬ x = 0 := by omega
    have e1 : ¬ x = 1 := by omega
    go_wp2
    go_ret
    have h9 := HS4.out.sel [1] (by decide) (by simp)
    simp only [List.map_cons, List.map_nil, pick, List.getD_cons_succ, List.getD_cons_zero, List.set_cons_zero, List.set_cons_succ, List.eraseIdx_cons_zero, List.eraseIdx_cons_succ, List.setIfInBounds_toArray] at h9
    exact ⟨A, 9, c, F3, ys, rfl, by omega, hy9, HYB.out, h9⟩
end Go.Proofs.Ytlmnmcfieagmbaa.MDrawA
