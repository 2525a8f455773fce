/- A record: RecOk, PutRec of both, and the laws' readers of one. -/
import Derived.Test.YtggmifnblcjdfaaGreatMSuper
import Derived.Test.YtggmifnblcjdfaaGreatLawLib
import Derived.Deep.DrawnRows
namespace Go.Proofs.YtggmifnblcjdfaaGreat.MRec
open Go.RowKit Go.Proofs.YtggmifnblcjdfaaGreat.RJ Go.Proofs.YtggmifnblcjdfaaGreatW.PrintWords Go.Proofs.YtggmifnblcjdfaaGreat.Fp Go.Proofs.YtggmifnblcjdfaaGreat.FpStep Go.Proofs.YtggmifnblcjdfaaGreat.MInt Go.Proofs.YtggmifnblcjdfaaGreat.MKinds Go.Proofs.YtggmifnblcjdfaaGreat.MRead Go.Proofs.YtggmifnblcjdfaaGreat.MMake Go.Proofs.YtggmifnblcjdfaaGreat.MPut Go.Proofs.YtggmifnblcjdfaaGreat.MHeld Go.Proofs.YtggmifnblcjdfaaGreat.MVal Go.Proofs.YtggmifnblcjdfaaGreat.Sep Go.Proofs.YtggmifnblcjdfaaGreat.SepStep Go.Proofs.YtggmifnblcjdfaaGreat.MReadS Go.Proofs.YtggmifnblcjdfaaGreat.MSuper Go.Proofs.YtggmifnblcjdfaaGreat.LawLib
set_option linter.unusedVariables false
set_option linter.unusedSimpArgs false
attribute [local go_sem ↓] Go.wp_at_zero Go.wp_at_succ
def recB (q t : Int) (xs : List Int) : Bool := inR q 0 60000 && inR t 0 7 && inR (xs.length : Int) 2 4 && xs.all isW
def putR (q t : Int) (xs : List Int) : List Int := if recB q t xs then [21322, q, t, (xs.length : Int)] ++ xs else []
theorem three {w : World} {g : Nat} {a0 a1 a2 : Value} {t : TypeId} (h : w.heap[g]? = some (.cells #[a0, a1, a2] t (0, 0))) :
    w.cell? ⟨g, 0, none⟩ = some a0 ∧ w.cell? ⟨g, 1, none⟩ = some a1 ∧ w.cell? ⟨g, 2, none⟩ = some a2 := by
  refine ⟨?_, ?_, ?_⟩ <;> simp [World.cell?, h]
theorem putR_len (q t : Int) (xs : List Int) : (putR q t xs).length ≤ xs.length + 4 := by
  unfold putR; split <;> simp
set_option maxHeartbeats 2000000 in
theorem c_implRecOk {w : World} {q t : Int} {v : Value} {xs : List Int} (h : RK kInt w v xs) :
    Calls Tryz.prog 156 #[.agg #[.int .i64 q, .int .i64 t, v]] w fun e w' => e = .returned (.bool (recB q t xs)) ∧ Below w.heap.size w w' := by
  have H := Aside0.mk h
  have lx := RK_len h
  obtain ⟨A, ca, rfl, _, _⟩ := h
  have HS := Aside0.mk ((Sep.start w []).alloc (g := w.heap.size) rfl #[.int .i64 q, .int .i64 t, .slice A xs.length ca] 96)
  by_cases h1 : inR q 0 60000 = true
  · by_cases h2 : inR t 0 7 = true
    · by_cases h3 : inR (xs.length : Int) 2 4 = true
      · go_enter Tryz.func156, Tryz.ntmps156
        go_wp2_with (first
          | (go_at_call 83; refine (c_wordsOk (HS.out.rk H.out)).mono ?_; rintro e w1 ⟨rfl, hb⟩; have HX := Aside0.mk (HS.out.dr hb); clear hb HS; have HS := HX; clear HX)
          | (go_at_call 78; refine (c_within _ _ _ _).mono ?_; (first | rw [h1] | rw [h2] | rw [h3]); rintro e w1 ⟨rfl, hb⟩; have HX := Aside0.mk (HS.out.dr hb); clear hb HS; have HS := HX; clear HX; obtain ⟨k0, k1, k2⟩ := three (HS.out.get 0 rfl))
          | fail)
        go_ret
        exact ⟨ret_bool (by simp [recB, h1, h2, h3]), HS.out.toBelow⟩
      · simp only [Bool.not_eq_true] at h3
        go_enter Tryz.func156, Tryz.ntmps156
        go_wp2_with (first
          | (go_at_call 78; refine (c_within _ _ _ _).mono ?_; (first | rw [h1] | rw [h2] | rw [h3]); rintro e w1 ⟨rfl, hb⟩; have HX := Aside0.mk (HS.out.dr hb); clear hb HS; have HS := HX; clear HX; obtain ⟨k0, k1, k2⟩ := three (HS.out.get 0 rfl))
          | fail)
        go_ret
        exact ⟨ret_bool (by simp [recB, h1, h2, h3]), HS.out.toBelow⟩
    · simp only [Bool.not_eq_true] at h2
      go_enter Tryz.func156, Tryz.ntmps156
      go_wp2_with (first
        | (go_at_call 78; refine (c_within _ _ _ _).mono ?_; (first | rw [h1] | rw [h2]); rintro e w1 ⟨rfl, hb⟩; have HX := Aside0.mk (HS.out.dr hb); clear hb HS; have HS := HX; clear HX; obtain ⟨k0, k1, k2⟩ := three (HS.out.get 0 rfl))
        | fail)
      go_ret
      exact ⟨ret_bool (by simp [recB, h1, h2]), HS.out.toBelow⟩
  · simp only [Bool.not_eq_true] at h1
    go_enter Tryz.func156, Tryz.ntmps156
    go_wp2_with (first
      | (go_at_call 78; refine (c_within _ _ _ _).mono ?_; rw [h1]; rintro e w1 ⟨rfl, hb⟩; have HX := Aside0.mk (HS.out.dr hb); clear hb HS; have HS := HX; clear HX)
      | fail)
    go_ret
    exact ⟨ret_bool (by simp [recB, h1]), HS.out.toBelow⟩
set_option maxHeartbeats 2000000 in
theorem c_implPutRec {w : World} {q t : Int} {v : Value} {xs : List Int} (h : RK kInt w v xs) (hl : xs.length ≤ 16777216) :
    Calls Tryz.prog 130 #[.agg #[.int .i64 q, .int .i64 t, v]] w fun e w' => ∃ A c F, e = .returned (.slice A (putR q t xs).length c) ∧ New w w' (rw_ oInt 3 F (.slice A (putR q t xs).length c) (putR q t xs)) := by
  have H := Aside0.mk h
  have lx := RK_len h
  obtain ⟨A, ca, rfl, _, _⟩ := h
  have HS := Aside0.mk ((Sep.start w []).alloc (g := w.heap.size) rfl #[.int .i64 q, .int .i64 t, .slice A xs.length ca] 96)
  by_cases h1 : recB q t xs = true
  · have hp : putR q t xs = [21322, q, t, (xs.length : Int)] ++ xs := by unfold putR; rw [if_pos h1]
    have Hp := Aside0.mk hp
    have hpl : (putR q t xs).length = 4 + xs.length := by rw [hp]; simp; omega
    have Hpl := Aside0.mk hpl
    clear hp hpl
    go_enter Tryz.func130, Tryz.ntmps130
    go_wp2_with (first
      | (go_at_call 156; refine (c_implRecOk (HS.out.rk H.out)).mono ?_; rw [h1]; rintro e w1 ⟨rfl, hb⟩; have HS1 := Aside0.mk (HS.out.below hb); clear hb HS; obtain ⟨k0, k1, k2⟩ := three (HS1.out.get 0 rfl); obtain ⟨j0, j1, j2⟩ := three ((HS1.out.alloc (g := w1.heap.size) rfl #[.int .i64 21322, .int .i64 q, .int .i64 t, .int .i64 xs.length] 3).get 1 rfl))
      | (at_builtin; refine app_ints .i64 (xs := [21322, q, t, (xs.length : Int)]) (new_lit HS1.out rfl 3 _ (l := [21322, q, t, (xs.length : Int)]) (n := 4) rfl rfl (by decide)) rfl _ _ 28 8 (by rfl) Tryz.underlying28 (by kernel_rfl) (by decide) _ xs (by rfl) (by rfl) ((new_lit HS1.out rfl 3 _ (l := [21322, q, t, (xs.length : Int)]) (n := 4) rfl rfl (by decide)).rk H.out) (by simp only [List.length_cons, List.length_nil]; omega) ?_; intro A2 c2 w2 F2 hE; have HE := Aside0.mk hE; clear hE)
      | fail)
    go_ret
    refine ⟨A2, c2, F2, ?_, ?_⟩
    · rw [Hpl.out]; rfl
    · rw [Hpl.out, Hp.out]; exact HE.out.toNew 0 rfl
  · simp only [Bool.not_eq_true] at h1
    have hp : putR q t xs = [] := by unfold putR; rw [h1]; rfl
    rw [hp]
    go_enter Tryz.func130, Tryz.ntmps130
    go_wp2_with (first
      | (go_at_call 156; refine (c_implRecOk (HS.out.rk H.out)).mono ?_; rw [h1]; rintro e w1 ⟨rfl, hb⟩; have HS1 := Aside0.mk (HS.out.below hb); clear hb HS)
      | fail)
    go_ret
    exact ⟨_, _, _, rfl, (HS1.out.nil oInt 3).toNew 0 rfl⟩
set_option maxHeartbeats 2000000 in
theorem c_specRecOk {w : World} {q t : Int} {v : Value} {xs : List Int} (h : RK kInt w v xs) :
    Calls Tryz.prog 152 #[.agg #[.int .i64 q, .int .i64 t, v]] w fun e w' => e = .returned (.bool (recB q t xs)) ∧ Below w.heap.size w w' := by
  have H := Aside0.mk h
  have lx := RK_len h
  obtain ⟨A, ca, rfl, _, _⟩ := h
  have HS := Aside0.mk ((Sep.start w []).alloc (g := w.heap.size) rfl #[.int .i64 q, .int .i64 t, .slice A xs.length ca] 96)
  by_cases h1 : inR q 0 60000 = true
  · by_cases h2 : inR t 0 7 = true
    · by_cases h3 : inR (xs.length : Int) 2 4 = true
      · go_enter Tryz.func152, Tryz.ntmps152
        go_wp2_with (first
          | (go_at_call 69; refine (c_l1Words (HS.out.rk H.out)).mono ?_; rintro e w1 ⟨rfl, hb⟩; have HX := Aside0.mk (HS.out.dr hb); clear hb HS; have HS := HX; clear HX)
          | (go_at_call 70; refine (c_l1In _ _ _ _).mono ?_; (first | rw [h1] | rw [h2] | rw [h3]); rintro e w1 ⟨rfl, hb⟩; have HX := Aside0.mk (HS.out.dr hb); clear hb HS; have HS := HX; clear HX; obtain ⟨k0, k1, k2⟩ := three (HS.out.get 0 rfl))
          | fail)
        go_ret
        exact ⟨ret_bool (by simp [recB, h1, h2, h3]), HS.out.toBelow⟩
      · simp only [Bool.not_eq_true] at h3
        go_enter Tryz.func152, Tryz.ntmps152
        go_wp2_with (first
          | (go_at_call 70; refine (c_l1In _ _ _ _).mono ?_; (first | rw [h1] | rw [h2] | rw [h3]); rintro e w1 ⟨rfl, hb⟩; have HX := Aside0.mk (HS.out.dr hb); clear hb HS; have HS := HX; clear HX; obtain ⟨k0, k1, k2⟩ := three (HS.out.get 0 rfl))
          | fail)
        go_ret
        exact ⟨ret_bool (by simp [recB, h1, h2, h3]), HS.out.toBelow⟩
    · simp only [Bool.not_eq_true] at h2
      go_enter Tryz.func152, Tryz.ntmps152
      go_wp2_with (first
        | (go_at_call 70; refine (c_l1In _ _ _ _).mono ?_; (first | rw [h1] | rw [h2]); rintro e w1 ⟨rfl, hb⟩; have HX := Aside0.mk (HS.out.dr hb); clear hb HS; have HS := HX; clear HX; obtain ⟨k0, k1, k2⟩ := three (HS.out.get 0 rfl))
        | fail)
      go_ret
      exact ⟨ret_bool (by simp [recB, h1, h2]), HS.out.toBelow⟩
  · simp only [Bool.not_eq_true] at h1
    go_enter Tryz.func152, Tryz.ntmps152
    go_wp2_with (first
      | (go_at_call 70; refine (c_l1In _ _ _ _).mono ?_; rw [h1]; rintro e w1 ⟨rfl, hb⟩; have HX := Aside0.mk (HS.out.dr hb); clear hb HS; have HS := HX; clear HX)
      | fail)
    go_ret
    exact ⟨ret_bool (by simp [recB, h1]), HS.out.toBelow⟩
set_option maxHeartbeats 2000000 in
theorem c_specPutRec {w : World} {q t : Int} {v : Value} {xs : List Int} (h : RK kInt w v xs) (hl : xs.length ≤ 16777216) :
    Calls Tryz.prog 119 #[.agg #[.int .i64 q, .int .i64 t, v]] w fun e w' => ∃ A c F, e = .returned (.slice A (putR q t xs).length c) ∧ New w w' (rw_ oInt 3 F (.slice A (putR q t xs).length c) (putR q t xs)) := by
  have H := Aside0.mk h
  have lx := RK_len h
  obtain ⟨A, ca, rfl, _, _⟩ := h
  have HS := Aside0.mk ((Sep.start w []).alloc (g := w.heap.size) rfl #[.int .i64 q, .int .i64 t, .slice A xs.length ca] 96)
  by_cases h1 : recB q t xs = true
  · have hp : putR q t xs = [21322, q, t, (xs.length : Int)] ++ xs := by unfold putR; rw [if_pos h1]
    have Hp := Aside0.mk hp
    have hpl : (putR q t xs).length = 4 + xs.length := by rw [hp]; simp; omega
    have Hpl := Aside0.mk hpl
    clear hp hpl
    go_enter Tryz.func119, Tryz.ntmps119
    go_wp2_with (first
      | (go_at_call 152; refine (c_specRecOk (HS.out.rk H.out)).mono ?_; rw [h1]; rintro e w1 ⟨rfl, hb⟩; have HS1 := Aside0.mk (HS.out.below hb); clear hb HS; obtain ⟨k0, k1, k2⟩ := three (HS1.out.get 0 rfl); obtain ⟨j0, j1, j2⟩ := three ((HS1.out.alloc (g := w1.heap.size) rfl #[.int .i64 21322, .int .i64 q, .int .i64 t, .int .i64 xs.length] 3).get 1 rfl))
      | (at_builtin; refine app_ints .i64 (xs := [21322, q, t, (xs.length : Int)]) (new_lit HS1.out rfl 3 _ (l := [21322, q, t, (xs.length : Int)]) (n := 4) rfl rfl (by decide)) rfl _ _ 28 8 (by rfl) Tryz.underlying28 (by kernel_rfl) (by decide) _ xs (by rfl) (by rfl) ((new_lit HS1.out rfl 3 _ (l := [21322, q, t, (xs.length : Int)]) (n := 4) rfl rfl (by decide)).rk H.out) (by simp only [List.length_cons, List.length_nil]; omega) ?_; intro A2 c2 w2 F2 hE; have HE := Aside0.mk hE; clear hE)
      | fail)
    go_ret
    refine ⟨A2, c2, F2, ?_, ?_⟩
    · rw [Hpl.out]; rfl
    · rw [Hpl.out, Hp.out]; exact HE.out.toNew 0 rfl
  · simp only [Bool.not_eq_true] at h1
    have hp : putR q t xs = [] := by unfold putR; rw [h1]; rfl
    rw [hp]
    go_enter Tryz.func119, Tryz.ntmps119
    go_wp2_with (first
      | (go_at_call 152; refine (c_specRecOk (HS.out.rk H.out)).mono ?_; rw [h1]; rintro e w1 ⟨rfl, hb⟩; have HS1 := Aside0.mk (HS.out.below hb); clear hb HS)
      | fail)
    go_ret
    exact ⟨_, _, _, rfl, (HS1.out.lit rfl oInt 3).toNew 0 rfl⟩
end Go.Proofs.YtggmifnblcjdfaaGreat.MRec
