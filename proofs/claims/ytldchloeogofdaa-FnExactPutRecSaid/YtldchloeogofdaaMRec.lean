/- A record: RecOk, PutRec of both, and the laws' readers of one. -/
import Derived.Test.YtldchloeogofdaaMSuper
import Derived.Test.YtldchloeogofdaaLawLib
import Derived.Deep.DrawnRows
namespace Go.Proofs.Ytldchloeogofdaa.MRec
open Go.RowKit Go.Proofs.Ytldchloeogofdaa.RJ Go.Proofs.YtldchloeogofdaaW.PrintWords Go.Proofs.Ytldchloeogofdaa.Fp Go.Proofs.Ytldchloeogofdaa.FpStep Go.Proofs.Ytldchloeogofdaa.MInt Go.Proofs.Ytldchloeogofdaa.MKinds Go.Proofs.Ytldchloeogofdaa.MRead Go.Proofs.Ytldchloeogofdaa.MMake Go.Proofs.Ytldchloeogofdaa.MPut Go.Proofs.Ytldchloeogofdaa.MHeld Go.Proofs.Ytldchloeogofdaa.MVal Go.Proofs.Ytldchloeogofdaa.Sep Go.Proofs.Ytldchloeogofdaa.SepStep Go.Proofs.Ytldchloeogofdaa.MReadS Go.Proofs.Ytldchloeogofdaa.MSuper Go.Proofs.Ytldchloeogofdaa.LawLib
set_option linter.unusedVariables false
set_option linter.unusedSimpArgs false
attribute [local go_sem ↓] Go.wp_at_zero Go.wp_at_succ
def recB (q t : Int) (xs : List Int) : Bool := inR q 0 60000 && inR t 0 7 && inR (xs.length : Int) 2 4 && xs.all isW
def putR (q t : Int) (xs : List Int) : List Int := if recB q t xs then [21322, q, t, (xs.length : Int)] ++ xs else []
theorem three {w : World} {g : Nat} {a0 a1 a2 : Value} {t : TypeId} (h : w.heap[g]? = some (.cells #[a0, a1, a2] t (0, 0))) :
    w.cell? ⟨g, 0, none⟩ = some a0 ∧ w.cell? ⟨g, 1, none⟩ = some a1 ∧ w.cell? ⟨g, 2, none⟩ = some a2 := by
  refine ⟨?_, ?_, ?_⟩ <;> simp [World.cell?, h]
theorem putR_len (q t : Int) (xs : List Int) : (putR q t xs).length ≤ xs.length + 4 := by
  unfold putR; split <;> simp
set_option maxHeartbeats 2000000 in
theorem c_szRec {w : World} {q t : Int} {v : Value} {xs : List Int} {left : Int} (h : RK kInt w v xs) (h0 : 0 ≤ left) (h1 : left ≤ 9223372036854775807) :
    Calls Try.prog 13 #[.agg #[.int .i64 q, .int .i64 t, v], .int .i64 left] w fun e w' => e = .returned (.int .i64 (if left - xs.length < 0 then -1 else left - xs.length)) ∧ Below w.heap.size w w' := by
  have H := Aside0.mk h
  obtain ⟨A, ca, rfl, _, _⟩ := h
  by_cases hl : left - xs.length < 0
  · rw [if_pos hl]
    go_enter Try.func13, Try.ntmps13
    go_wp2_with (first
      | (go_at_call 80; have HS := Aside0.mk ((Sep.start w []).alloc (g := w.heap.size) rfl #[.int .i64 q, .int .i64 t, .slice A xs.length ca] 24); refine (c_szIntS (HS.out.rk H.out) h0 h1).mono ?_; rw [if_pos hl]; rintro e w1 ⟨rfl, hb⟩; have HS1 := Aside0.mk (HS.out.dr hb); clear hb HS)
      | fail)
    go_ret
    exact ⟨rfl, HS1.out.toBelow⟩
  · rw [if_neg hl]
    go_enter Try.func13, Try.ntmps13
    go_wp2_with (first
      | (go_at_call 80; have HS := Aside0.mk ((Sep.start w []).alloc (g := w.heap.size) rfl #[.int .i64 q, .int .i64 t, .slice A xs.length ca] 24); refine (c_szIntS (HS.out.rk H.out) h0 h1).mono ?_; rw [if_neg hl]; rintro e w1 ⟨rfl, hb⟩; have HS1 := Aside0.mk (HS.out.dr hb); clear hb HS)
      | fail)
    go_ret
    exact ⟨rfl, HS1.out.toBelow⟩
set_option maxHeartbeats 2000000 in
theorem c_eqRec {w : World} {q t : Int} {v u : Value} {xs : List Int} (h : RK kInt w v xs) (k : RK kInt w u xs) :
    Calls Try.prog 18 #[.agg #[.int .i64 q, .int .i64 t, v], .agg #[.int .i64 q, .int .i64 t, u]] w fun e w' => e = .returned (.bool true) ∧ Below w.heap.size w w' := by
  have H := Aside0.mk h
  have K := Aside0.mk k
  obtain ⟨A, ca, rfl, _, _⟩ := h
  obtain ⟨B, cb, rfl, _, _⟩ := k
  go_enter Try.func18, Try.ntmps18
  go_wp2_with (first
    | (go_at_call 17; have HS := Aside0.mk (((Sep.start w []).alloc (g := w.heap.size) rfl #[.int .i64 q, .int .i64 t, .slice A xs.length ca] 27).alloc (g := w.heap.size + 1) (by simp) #[.int .i64 q, .int .i64 t, .slice B xs.length cb] 27); refine (c_eqIntS (HS.out.rk H.out) (HS.out.rk K.out)).mono ?_; rw [decide_eq_true rfl]; rintro e w1 ⟨rfl, hb⟩; have HS1 := Aside0.mk (HS.out.dr hb); clear hb HS)
    | fail)
  go_ret
  exact ⟨rfl, HS1.out.toBelow⟩
set_option maxHeartbeats 2000000 in
theorem c_toRec {w : World} {q t : Int} {v : Value} {xs : List Int} (h : RK kInt w v xs) (hl : xs.length ≤ 16777216) :
    Calls Try.prog 15 #[.agg #[.int .i64 q, .int .i64 t, v]] w fun e w' => ∃ A c F, e = .returned (.agg #[.int .i64 q, .int .i64 t, .slice A xs.length c]) ∧ New w w' (rw_ oInt 3 F (.slice A xs.length c) xs) := by
  have H := Aside0.mk h
  obtain ⟨A, ca, rfl, _, _⟩ := h
  go_enter Try.func15, Try.ntmps15
  go_wp2_with (first
    | (go_at_call 81; have HS := Aside0.mk ((((Sep.start w []).alloc (g := w.heap.size) rfl #[.int .i64 q, .int .i64 t, .slice A xs.length ca] 24).alloc (g := w.heap.size + 1) (by simp) #[.int .i64 0, .int .i64 0, .slice none 0 0] 27).alloc (g := w.heap.size + 1 + 1) (by simp) #[.int .i64 q, .int .i64 t, .slice none 0 0] 27); refine (c_toIntS (HS.out.rk H.out) hl).mono ?_; rintro e w1 ⟨u1, F1, rfl, hu, hF, hb⟩; have HS1 := Aside0.mk (HS.out.new (new_row hu hF hb)); obtain ⟨B, cb, rfl, hzz⟩ := O_RK hu; clear hu hF hb HS hzz; have gz := blk_frozen (HS1.out.get 1 rfl); have gy := blk_frozen (HS1.out.get 2 rfl); obtain ⟨k0, k1, k2⟩ := three (HS1.out.get 1 rfl); obtain ⟨j0, j1, j2⟩ := three (HS1.out.get 2 rfl))
    | fail)
  have HE := ((((HS1.out.setb 1 rfl 2 (.slice B xs.length cb) rfl).setb 2 rfl 0 (.int .i64 q) rfl).setb 2 rfl 1 (.int .i64 t) rfl).setb 2 rfl 2 (.slice B xs.length cb) rfl)
  refine bodyPost_ret (results_cell_row rfl _ _ (w.heap.size + 1) 27 #[.int .i64 q, .int .i64 t, .slice B xs.length cb] (0, 0) _ rfl (HE.get 2 rfl) Try.underlying27 rfl (by kernel_rfl)) rfl ?_
  exact ⟨B, cb, F1, rfl, HE.toNew 0 rfl⟩
set_option maxHeartbeats 2000000 in
theorem c_markRec {w : World} {q t : Int} {v : Value} {F : List Nat} {xs : List Int} {e : TypeId} {k : Int} (h : oInt.O e w F v xs) (hn : F.Nodup) (h0 : -9223372036854775808 ≤ k) (h1 : k + xs.length ≤ 9223372036854775807) :
    Calls Try.prog 19 #[.agg #[.int .i64 q, .int .i64 t, v], .int .i64 k] w fun r w' => r = .returned (.int .i64 (k + xs.length)) ∧ Upd w w' F (rw_ oInt e F v (cntL k xs.length)) := by
  have H := Aside0.mk (Sep.own (lies_row h) hn)
  obtain ⟨A, ca, rfl, _⟩ := O_RK h
  clear h
  go_enter Try.func19, Try.ntmps19
  go_wp2_with (first
    | (go_at_call 20; have HS := Aside0.mk (H.out.alloc (g := w.heap.size) rfl #[.int .i64 q, .int .i64 t, .slice A xs.length ca] 27); refine (c_markIntS (HS.out.get 1 rfl) h0 h1).mono ?_; rintro e w1 ⟨rfl, hu, hc⟩; have HS1 := Aside0.mk (HS.out.upd 1 rfl (upd_ints hu (HS.out.fnd 1 rfl) hc)); clear hu hc HS)
    | fail)
  go_ret
  exact ⟨rfl, HS1.out.toUpd 1 rfl⟩
set_option maxHeartbeats 2000000 in
theorem c_implRecOk {w : World} {q t : Int} {v : Value} {xs : List Int} (h : RK kInt w v xs) :
    Calls Try.prog 29 #[.agg #[.int .i64 q, .int .i64 t, v]] w fun e w' => e = .returned (.bool (recB q t xs)) ∧ Below w.heap.size w w' := by
  have H := Aside0.mk h
  have lx := RK_len h
  obtain ⟨A, ca, rfl, _, _⟩ := h
  have HS := Aside0.mk ((Sep.start w []).alloc (g := w.heap.size) rfl #[.int .i64 q, .int .i64 t, .slice A xs.length ca] 27)
  by_cases h1 : inR q 0 60000 = true
  · by_cases h2 : inR t 0 7 = true
    · by_cases h3 : inR (xs.length : Int) 2 4 = true
      · go_enter Try.func29, Try.ntmps29
        go_wp2_with (first
          | (go_at_call 89; refine (c_wordsOk (HS.out.rk H.out)).mono ?_; rintro e w1 ⟨rfl, hb⟩; have HX := Aside0.mk (HS.out.dr hb); clear hb HS; have HS := HX; clear HX)
          | (go_at_call 88; refine (c_within _ _ _ _).mono ?_; (first | rw [h1] | rw [h2] | rw [h3]); rintro e w1 ⟨rfl, hb⟩; have HX := Aside0.mk (HS.out.dr hb); clear hb HS; have HS := HX; clear HX; obtain ⟨k0, k1, k2⟩ := three (HS.out.get 0 rfl))
          | fail)
        go_ret
        exact ⟨ret_bool (by simp [recB, h1, h2, h3]), HS.out.toBelow⟩
      · simp only [Bool.not_eq_true] at h3
        go_enter Try.func29, Try.ntmps29
        go_wp2_with (first
          | (go_at_call 88; refine (c_within _ _ _ _).mono ?_; (first | rw [h1] | rw [h2] | rw [h3]); rintro e w1 ⟨rfl, hb⟩; have HX := Aside0.mk (HS.out.dr hb); clear hb HS; have HS := HX; clear HX; obtain ⟨k0, k1, k2⟩ := three (HS.out.get 0 rfl))
          | fail)
        go_ret
        exact ⟨ret_bool (by simp [recB, h1, h2, h3]), HS.out.toBelow⟩
    · simp only [Bool.not_eq_true] at h2
      go_enter Try.func29, Try.ntmps29
      go_wp2_with (first
        | (go_at_call 88; refine (c_within _ _ _ _).mono ?_; (first | rw [h1] | rw [h2]); rintro e w1 ⟨rfl, hb⟩; have HX := Aside0.mk (HS.out.dr hb); clear hb HS; have HS := HX; clear HX; obtain ⟨k0, k1, k2⟩ := three (HS.out.get 0 rfl))
        | fail)
      go_ret
      exact ⟨ret_bool (by simp [recB, h1, h2]), HS.out.toBelow⟩
  · simp only [Bool.not_eq_true] at h1
    go_enter Try.func29, Try.ntmps29
    go_wp2_with (first
      | (go_at_call 88; refine (c_within _ _ _ _).mono ?_; rw [h1]; rintro e w1 ⟨rfl, hb⟩; have HX := Aside0.mk (HS.out.dr hb); clear hb HS; have HS := HX; clear HX)
      | fail)
    go_ret
    exact ⟨ret_bool (by simp [recB, h1]), HS.out.toBelow⟩
set_option maxHeartbeats 2000000 in
theorem c_implPutRec {w : World} {q t : Int} {v : Value} {xs : List Int} (h : RK kInt w v xs) (hl : xs.length ≤ 16777216) :
    Calls Try.prog 16 #[.agg #[.int .i64 q, .int .i64 t, v]] w fun e w' => ∃ A c F, e = .returned (.slice A (putR q t xs).length c) ∧ New w w' (rw_ oInt 3 F (.slice A (putR q t xs).length c) (putR q t xs)) := by
  have H := Aside0.mk h
  have lx := RK_len h
  obtain ⟨A, ca, rfl, _, _⟩ := h
  have HS := Aside0.mk ((Sep.start w []).alloc (g := w.heap.size) rfl #[.int .i64 q, .int .i64 t, .slice A xs.length ca] 27)
  by_cases h1 : recB q t xs = true
  · have hp : putR q t xs = [21322, q, t, (xs.length : Int)] ++ xs := by unfold putR; rw [if_pos h1]
    have Hp := Aside0.mk hp
    have hpl : (putR q t xs).length = 4 + xs.length := by rw [hp]; simp; omega
    have Hpl := Aside0.mk hpl
    clear hp hpl
    go_enter Try.func16, Try.ntmps16
    go_wp2_with (first
      | (go_at_call 29; refine (c_implRecOk (HS.out.rk H.out)).mono ?_; rw [h1]; rintro e w1 ⟨rfl, hb⟩; have HS1 := Aside0.mk (HS.out.below hb); clear hb HS; obtain ⟨k0, k1, k2⟩ := three (HS1.out.get 0 rfl); obtain ⟨j0, j1, j2⟩ := three ((HS1.out.alloc (g := w1.heap.size) rfl #[.int .i64 21322, .int .i64 q, .int .i64 t, .int .i64 xs.length] 3).get 1 rfl))
      | (at_builtin; refine app_ints .i64 (xs := [21322, q, t, (xs.length : Int)]) (new_lit HS1.out rfl 3 _ (l := [21322, q, t, (xs.length : Int)]) (n := 4) rfl rfl (by decide)) rfl _ _ 22 8 (by rfl) Try.underlying22 (by kernel_rfl) (by decide) _ xs (by rfl) (by rfl) ((new_lit HS1.out rfl 3 _ (l := [21322, q, t, (xs.length : Int)]) (n := 4) rfl rfl (by decide)).rk H.out) (by simp only [List.length_cons, List.length_nil]; omega) ?_; intro A2 c2 w2 F2 hE; have HE := Aside0.mk hE; clear hE)
      | fail)
    go_ret
    refine ⟨A2, c2, F2, ?_, ?_⟩
    · rw [Hpl.out]; rfl
    · rw [Hpl.out, Hp.out]; exact HE.out.toNew 0 rfl
  · simp only [Bool.not_eq_true] at h1
    have hp : putR q t xs = [] := by unfold putR; rw [h1]; rfl
    rw [hp]
    go_enter Try.func16, Try.ntmps16
    go_wp2_with (first
      | (go_at_call 29; refine (c_implRecOk (HS.out.rk H.out)).mono ?_; rw [h1]; rintro e w1 ⟨rfl, hb⟩; have HS1 := Aside0.mk (HS.out.below hb); clear hb HS)
      | fail)
    go_ret
    exact ⟨_, _, _, rfl, (HS1.out.nil oInt 3).toNew 0 rfl⟩
set_option maxHeartbeats 2000000 in
theorem c_specRecOk {w : World} {q t : Int} {v : Value} {xs : List Int} (h : RK kInt w v xs) :
    Calls Try.prog 36 #[.agg #[.int .i64 q, .int .i64 t, v]] w fun e w' => e = .returned (.bool (recB q t xs)) ∧ Below w.heap.size w w' := by
  have H := Aside0.mk h
  have lx := RK_len h
  obtain ⟨A, ca, rfl, _, _⟩ := h
  have HS := Aside0.mk ((Sep.start w []).alloc (g := w.heap.size) rfl #[.int .i64 q, .int .i64 t, .slice A xs.length ca] 27)
  by_cases h1 : inR q 0 60000 = true
  · by_cases h2 : inR t 0 7 = true
    · by_cases h3 : inR (xs.length : Int) 2 4 = true
      · go_enter Try.func36, Try.ntmps36
        go_wp2_with (first
          | (go_at_call 91; refine (c_l1Words (HS.out.rk H.out)).mono ?_; rintro e w1 ⟨rfl, hb⟩; have HX := Aside0.mk (HS.out.dr hb); clear hb HS; have HS := HX; clear HX)
          | (go_at_call 90; refine (c_l1In _ _ _ _).mono ?_; (first | rw [h1] | rw [h2] | rw [h3]); rintro e w1 ⟨rfl, hb⟩; have HX := Aside0.mk (HS.out.dr hb); clear hb HS; have HS := HX; clear HX; obtain ⟨k0, k1, k2⟩ := three (HS.out.get 0 rfl))
          | fail)
        go_ret
        exact ⟨ret_bool (by simp [recB, h1, h2, h3]), HS.out.toBelow⟩
      · simp only [Bool.not_eq_true] at h3
        go_enter Try.func36, Try.ntmps36
        go_wp2_with (first
          | (go_at_call 90; refine (c_l1In _ _ _ _).mono ?_; (first | rw [h1] | rw [h2] | rw [h3]); rintro e w1 ⟨rfl, hb⟩; have HX := Aside0.mk (HS.out.dr hb); clear hb HS; have HS := HX; clear HX; obtain ⟨k0, k1, k2⟩ := three (HS.out.get 0 rfl))
          | fail)
        go_ret
        exact ⟨ret_bool (by simp [recB, h1, h2, h3]), HS.out.toBelow⟩
    · simp only [Bool.not_eq_true] at h2
      go_enter Try.func36, Try.ntmps36
      go_wp2_with (first
        | (go_at_call 90; refine (c_l1In _ _ _ _).mono ?_; (first | rw [h1] | rw [h2]); rintro e w1 ⟨rfl, hb⟩; have HX := Aside0.mk (HS.out.dr hb); clear hb HS; have HS := HX; clear HX; obtain ⟨k0, k1, k2⟩ := three (HS.out.get 0 rfl))
        | fail)
      go_ret
      exact ⟨ret_bool (by simp [recB, h1, h2]), HS.out.toBelow⟩
  · simp only [Bool.not_eq_true] at h1
    go_enter Try.func36, Try.ntmps36
    go_wp2_with (first
      | (go_at_call 90; refine (c_l1In _ _ _ _).mono ?_; rw [h1]; rintro e w1 ⟨rfl, hb⟩; have HX := Aside0.mk (HS.out.dr hb); clear hb HS; have HS := HX; clear HX)
      | fail)
    go_ret
    exact ⟨ret_bool (by simp [recB, h1]), HS.out.toBelow⟩
set_option maxHeartbeats 2000000 in
theorem c_specPutRec {w : World} {q t : Int} {v : Value} {xs : List Int} (h : RK kInt w v xs) (hl : xs.length ≤ 16777216) :
    Calls Try.prog 14 #[.agg #[.int .i64 q, .int .i64 t, v]] w fun e w' => ∃ A c F, e = .returned (.slice A (putR q t xs).length c) ∧ New w w' (rw_ oInt 3 F (.slice A (putR q t xs).length c) (putR q t xs)) := by
  have H := Aside0.mk h
  have lx := RK_len h
  obtain ⟨A, ca, rfl, _, _⟩ := h
  have HS := Aside0.mk ((Sep.start w []).alloc (g := w.heap.size) rfl #[.int .i64 q, .int .i64 t, .slice A xs.length ca] 27)
  by_cases h1 : recB q t xs = true
  · have hp : putR q t xs = [21322, q, t, (xs.length : Int)] ++ xs := by unfold putR; rw [if_pos h1]
    have Hp := Aside0.mk hp
    have hpl : (putR q t xs).length = 4 + xs.length := by rw [hp]; simp; omega
    have Hpl := Aside0.mk hpl
    clear hp hpl
    go_enter Try.func14, Try.ntmps14
    go_wp2_with (first
      | (go_at_call 36; refine (c_specRecOk (HS.out.rk H.out)).mono ?_; rw [h1]; rintro e w1 ⟨rfl, hb⟩; have HS1 := Aside0.mk (HS.out.below hb); clear hb HS; obtain ⟨k0, k1, k2⟩ := three (HS1.out.get 0 rfl); obtain ⟨j0, j1, j2⟩ := three ((HS1.out.alloc (g := w1.heap.size) rfl #[.int .i64 21322, .int .i64 q, .int .i64 t, .int .i64 xs.length] 3).get 1 rfl))
      | (at_builtin; refine app_ints .i64 (xs := [21322, q, t, (xs.length : Int)]) (new_lit HS1.out rfl 3 _ (l := [21322, q, t, (xs.length : Int)]) (n := 4) rfl rfl (by decide)) rfl _ _ 22 8 (by rfl) Try.underlying22 (by kernel_rfl) (by decide) _ xs (by rfl) (by rfl) ((new_lit HS1.out rfl 3 _ (l := [21322, q, t, (xs.length : Int)]) (n := 4) rfl rfl (by decide)).rk H.out) (by simp only [List.length_cons, List.length_nil]; omega) ?_; intro A2 c2 w2 F2 hE; have HE := Aside0.mk hE; clear hE)
      | fail)
    go_ret
    refine ⟨A2, c2, F2, ?_, ?_⟩
    · rw [Hpl.out]; rfl
    · rw [Hpl.out, Hp.out]; exact HE.out.toNew 0 rfl
  · simp only [Bool.not_eq_true] at h1
    have hp : putR q t xs = [] := by unfold putR; rw [h1]; rfl
    rw [hp]
    go_enter Try.func14, Try.ntmps14
    go_wp2_with (first
      | (go_at_call 36; refine (c_specRecOk (HS.out.rk H.out)).mono ?_; rw [h1]; rintro e w1 ⟨rfl, hb⟩; have HS1 := Aside0.mk (HS.out.below hb); clear hb HS)
      | fail)
    go_ret
    exact ⟨_, _, _, rfl, (HS1.out.lit rfl oInt 3).toNew 0 rfl⟩
end Go.Proofs.Ytldchloeogofdaa.MRec
