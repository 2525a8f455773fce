/- Contracts of functions over rows of numbers: what each returns, and what has turned in memory. -/
import Derived.Test.YtlmnmcfieagmbaaProg
import Derived.Test.YtlmnmcfieagmbaaFp
import Derived.OwnWalk
import Derived.WalkKit
import Derived.KernelRfl
import Derived.Deep.LoopGhost
import Derived.Deep.QuietTactic
import Derived.BigQuiet
import Derived.Tactics
import Derived.RowKit3
namespace Go.Proofs.Ytlmnmcfieagmbaa.MInt
open Go.RowKit Go.Proofs.YtlmnmcfieagmbaaW.PrintWords Go.Proofs.Ytlmnmcfieagmbaa.Fp
set_option linter.unusedVariables false
set_option linter.unusedSimpArgs false
theorem ints_at {k : IntKind} {w : World} {v : Value} {l : List Int} (h : RK (Kd.int k) w v l) (hn : 0 < l.length) : ∃ ad cap, v = .slice (some ad) l.length cap ∧ ∀ (i : Nat) (x : Int), l[i]? = some x → w.cell? (ad.add i) = some (.int k x) := by
  obtain ⟨A, cap, rfl, hl, hC⟩ := h
  obtain ⟨ad, rfl, hc⟩ := hC.2.2 hn
  refine ⟨ad, cap, rfl, fun i x hi => ?_⟩
  obtain ⟨c, _, hK, hcell⟩ := hc i x hi
  obtain rfl : c = [.int k x] := hK
  have := hcell 0 _ rfl
  simpa [Kd.int, Kd.scalar] using this
def cntL (a : Int) (n : Nat) : List Int := (List.range n).map (fun (j : Nat) => a + (j : Int))
theorem ret_bool {b c : Bool} (h : b = c) : Ending.returned (.bool b) = .returned (.bool c) := by rw [h]
theorem ret_int {k : IntKind} {b c : Int} (h : b = c) : Ending.returned (.int k b) = .returned (.int k c) := by rw [h]
theorem drawn_len {w : World} {n : Nat} : (w.drewN n).heap.size = w.heap.size := rfl
theorem below_drawn {w w' : World} (h : ∃ n, w' = w.drewN n) : Below w.heap.size w w' := by
  obtain ⟨n, rfl⟩ := h
  exact pw_below_drewN (Below.refl _ _) n
theorem take_next {α : Type} {l m : List α} {i : Nat} {x : α} (h : l.take i = m.take i) (hl : l[i]? = some x) (hm : m[i]? = some x) : l.take (i + 1) = m.take (i + 1) := by
  obtain ⟨h1, h2⟩ := List.getElem?_eq_some_iff.1 hl
  obtain ⟨h3, h4⟩ := List.getElem?_eq_some_iff.1 hm
  rw [List.take_succ_eq_append_getElem h1, List.take_succ_eq_append_getElem h3, h, h2, h4]
theorem cntL_succ (a : Int) (n : Nat) : cntL a (n + 1) = cntL a n ++ [a + (n : Int)] := by simp [cntL, List.range_succ]
theorem cntL_length (a : Int) (n : Nat) : (cntL a n).length = n := by simp [cntL]
theorem O_int_cell {k : IntKind} {e : TypeId} {w : World} {F : List Nat} {g n cap : Nat} {l : List Int} (h : (Od.int k).O e w F (.slice (some ⟨g, 0, none⟩) n cap) l) {i : Nat} (hi : i < l.length) :
    w.cell? ⟨g, i, none⟩ = some (.int k l[i]) ∧ w.frozen? ⟨g, i, none⟩ = false := by
  obtain ⟨c, G, hM, _, hc, hf, _⟩ := O_elem h (List.getElem?_eq_getElem hi)
  obtain ⟨_, rfl⟩ := hM
  have h1 := hc 0 _ rfl
  have h2 := hf 0
  simp only [show (Od.int k).sz = 1 from rfl, Nat.mul_one, Nat.add_zero] at h1 h2
  exact ⟨h1, h2⟩
theorem O_int_set {k : IntKind} {e : TypeId} {w : World} {F : List Nat} {g n cap : Nat} {l : List Int} (h : (Od.int k).O e w F (.slice (some ⟨g, 0, none⟩) n cap) l) {i : Nat} (hi : i < l.length) (x : Int) :
    (Od.int k).O e (w.setCell ⟨g, i, none⟩ (.int k x)) F (.slice (some ⟨g, 0, none⟩) n cap) (l.set i x) := by
  obtain ⟨hr, rfl⟩ := O_int_row h
  have hn : n = l.length := by
    rcases hr.2 with ⟨h', _⟩ | ⟨_, _, _, h', _⟩ <;> simp at h'
    exact h'.2.1
  subst hn
  have hs := (own_store hr (i : Int) x).1
  simp only [Int.toNat_natCast] at hs
  exact O_int k hs (by simp)
/-- What a look along a row, for the numbers from k on, comes to. -/
def heldR (k : Int) (xs : List Int) : Int := if xs = cntL k xs.length then k + xs.length else -1
theorem cntL_get (k : Int) {n i : Nat} (h : i < n) : (cntL k n)[i]? = some (k + (i : Int)) := by simp [cntL, h]
def inR (n lo hi : Int) : Bool := decide (lo ≤ n) && decide (n ≤ hi)
def isW (n : Int) : Bool := inR n 0 65535
theorem all_take {α : Type} {f : α → Bool} {l : List α} {i : Nat} {x : α} (h : (l.take i).all f = true) (hx : l[i]? = some x) (hf : f x = true) : (l.take (i + 1)).all f = true := by
  obtain ⟨h1, h2⟩ := List.getElem?_eq_some_iff.1 hx
  rw [List.take_succ_eq_append_getElem h1, List.all_append, h, h2]; simp [hf]
theorem all_not {α : Type} {f : α → Bool} {l : List α} {i : Nat} {x : α} (hx : l[i]? = some x) (hf : f x = false) : l.all f = false := by
  rw [List.all_eq_false]
  exact ⟨x, List.mem_of_getElem? hx, by simp [hf]⟩
def secB (xs : List Int) : Bool := decide (xs.length ≤ 12) && xs.all isW
set_option maxHeartbeats 1000000 in
theorem c_eqIntS {w : World} {v u : Value} {xs ys : List Int} (hx : RK (Kd.int .i64) w v xs) (hy : RK (Kd.int .i64) w u ys) :
    Calls Try.prog 107 #[v, u] w fun e w' => e = .returned (.bool (decide (xs = ys))) ∧ ∃ n, w' = w.drewN n := by
  have lx := RK_len hx
  have ly := RK_len hy
  by_cases hne : xs.length = ys.length
  · by_cases h0 : 0 < xs.length
    · obtain ⟨a, ca, rfl, ha⟩ := ints_at hx h0
      obtain ⟨b, cb, rfl, hb⟩ := ints_at hy (by omega)
      have Ha := Aside0.mk ha
      have Hb := Aside0.mk hb
      have Hne := Aside0.mk hne
      rw [← hne]
      clear ha hb hx hy hne
      go_enter Try.func107, Try.ntmps107
      go_wp2
      go_loopw [5] (fun v5 wr => ∃ i : Nat, i ≤ xs.length ∧ v5 = .int .i64 i ∧ Aside0 (xs.take i = ys.take i) ∧ ∃ n, wr = w.drewN n) (fun v5 _ => xs.length - (intOf v5).toNat)
      case atStart => exact ⟨0, by omega, rfl, ⟨rfl⟩, 0, rfl⟩
      case round =>
        obtain ⟨i, hi, rfl, ht, n, rfl⟩ := hrel
        by_cases hlt : i < xs.length
        · have hlt' : i < ys.length := by have := Hne.out; omega
          obtain ⟨x, hxi⟩ : ∃ x, xs[i]? = some x := ⟨_, List.getElem?_eq_getElem hlt⟩
          obtain ⟨y, hyi⟩ : ∃ y, ys[i]? = some y := ⟨_, List.getElem?_eq_getElem hlt'⟩
          have ca := Ha.out i x hxi
          have cb := Hb.out i y hyi
          have Hxi := Aside0.mk hxi
          have Hyi := Aside0.mk hyi
          clear hxi hyi
          by_cases hxy : x = y
          · subst hxy
            go_wp2
            go_quiet (fail)
            go_wp2
            go_roundw
            case rel => exact ⟨i + 1, by omega, by go_num, ⟨take_next ht.out Hxi.out Hyi.out⟩, _, rfl⟩
            case measure => simp [intOf]; omega
          · have hxy' : (x == y) = false := by simpa using hxy
            have hd : decide (xs = ys) = false := by
              rw [decide_eq_false_iff_not]; rintro rfl
              have := Hxi.out.symm.trans Hyi.out
              exact hxy (Option.some.inj this)
            go_wp2
            go_quiet (fail)
            go_wp2
            go_ret
            exact ⟨ret_bool hd.symm, by first | exact ⟨_, rfl⟩ | exact ⟨_, World.drewN_drewN _ _ _⟩⟩
        · obtain rfl : i = xs.length := by omega
          have hd : decide (xs = ys) = true := by
            rw [decide_eq_true_eq]
            have h1 := ht.out
            have h2 := Hne.out
            rwa [List.take_of_length_le (by omega), List.take_of_length_le (by omega)] at h1
          go_wp2
          go_ret
          exact ⟨ret_bool hd.symm, n, rfl⟩
    · have h1 : xs = [] := List.eq_nil_of_length_eq_zero (by omega)
      have h2 : ys = [] := List.eq_nil_of_length_eq_zero (by omega)
      subst h1 h2
      obtain ⟨A, ca, rfl, _, _⟩ := hx
      obtain ⟨B, cb, rfl, _, _⟩ := hy
      go_enter Try.func107, Try.ntmps107
      go_wp2
      refine wp_loop_rounds 1 ?_
      rw [rounds_succ]
      go_wp2
      go_ret
      exact ⟨rfl, 0, rfl⟩
  · obtain ⟨A, ca, rfl, _, _⟩ := hx
    obtain ⟨B, cb, rfl, _, _⟩ := hy
    have hd : decide (xs = ys) = false := by rw [decide_eq_false_iff_not]; rintro rfl; exact hne rfl
    go_enter Try.func107, Try.ntmps107
    go_wp2
    go_ret
    exact ⟨ret_bool hd.symm, 0, rfl⟩
set_option maxHeartbeats 1000000 in
theorem c_markIntS {w : World} {v : Value} {F : List Nat} {xs : List Int} {e : TypeId} {k : Int} (h : (Od.int .i64).O e w F v xs) (h0 : -9223372036854775808 ≤ k) (h1 : k + xs.length ≤ 9223372036854775807) :
    Calls Try.prog 110 #[v, .int .i64 k] w fun r w' => r = .returned (.int .i64 (k + xs.length)) ∧ (Od.int .i64).O e w' F v (cntL k xs.length) ∧ Chg F w w' := by
  have lx := RK_len (O_RK h)
  by_cases hn : 0 < xs.length
  · obtain ⟨g, cap, rfl, hg, _⟩ := O_form h hn
    have H := Aside0.mk h
    have Hg := Aside0.mk hg
    clear h hg
    go_enter Try.func110, Try.ntmps110
    go_wp2
    go_loopw [1, 5] (fun v1 v5 wr => ∃ i : Nat, i ≤ xs.length ∧ v5 = .int .i64 i ∧ v1 = .int .i64 (k + i) ∧ ∃ ys : List Int, Aside0 (ys.length = xs.length ∧ ys.take i = cntL k i ∧ (Od.int .i64).O e wr F (.slice (some ⟨g, 0, none⟩) xs.length cap) ys ∧ Chg F w wr)) (fun _ v5 _ => xs.length - (intOf v5).toNat)
    case atStart => exact ⟨0, by omega, rfl, by simp, xs, ⟨rfl, by simp [cntL], H.out, Chg.refl _ _⟩⟩
    case round =>
      obtain ⟨i, hi, rfl, rfl, ys, hr⟩ := hrel
      by_cases hlt : i < xs.length
      · have hlt' : i < ys.length := by have := hr.out.1; omega
        have ca := O_int_cell hr.out.2.2.1 hlt'
        obtain ⟨c1, c2⟩ := ca
        go_wp2
        go_roundw
        case rel =>
          refine ⟨i + 1, by omega, by go_num, by go_num, ys.set i (k + i), ⟨by simp [hr.out.1], ?_, O_int_set hr.out.2.2.1 hlt' _, hr.out.2.2.2.set (.inl Hg.out) _⟩⟩
          rw [List.take_succ_eq_append_getElem (by simp; omega), List.take_set_of_le (Nat.le_refl _), hr.out.2.1, List.getElem_set_self, cntL_succ]
        case measure => simp [intOf]; omega
      · obtain rfl : i = xs.length := by omega
        go_wp2
        go_ret
        obtain ⟨h2, h3, h4, h5⟩ := hr.out
        rw [List.take_of_length_le (by omega)] at h3
        subst h3
        exact ⟨rfl, h4, h5⟩
  · have h2 : xs = [] := List.eq_nil_of_length_eq_zero (by omega)
    subst h2
    obtain ⟨A, ca, rfl, _, _⟩ := O_RK h
    go_enter Try.func110, Try.ntmps110
    go_wp2
    refine wp_loop_rounds 1 ?_
    rw [rounds_succ]
    go_wp2
    go_ret
    exact ⟨by simp, h, Chg.refl _ _⟩
set_option maxHeartbeats 1000000 in
theorem c_heldIntS {w : World} {v : Value} {xs : List Int} {k : Int} (h : RK (Kd.int .i64) w v xs) (h0 : 0 ≤ k) (h1 : k + xs.length ≤ 9223372036854775807) :
    Calls Try.prog 113 #[v, .int .i64 k] w fun e w' => e = .returned (.int .i64 (heldR k xs)) ∧ ∃ n, w' = w.drewN n := by
  have lx := RK_len h
  by_cases hn : 0 < xs.length
  · obtain ⟨ad, cap, rfl, hc⟩ := ints_at h hn
    have Hc := Aside0.mk hc
    clear h hc
    go_enter Try.func113, Try.ntmps113
    go_wp2
    go_loopw [1, 5] (fun v1 v5 wr => ∃ i : Nat, i ≤ xs.length ∧ v5 = .int .i64 i ∧ v1 = .int .i64 (k + i) ∧ Aside0 (xs.take i = (cntL k xs.length).take i) ∧ wr = w) (fun _ v5 _ => xs.length - (intOf v5).toNat)
    case atStart => exact ⟨0, by omega, rfl, by simp, ⟨rfl⟩, rfl⟩
    case round =>
      obtain ⟨i, hi, rfl, rfl, ht, rfl⟩ := hrel
      by_cases hlt : i < xs.length
      · obtain ⟨x, hxi⟩ : ∃ x, xs[i]? = some x := ⟨_, List.getElem?_eq_getElem hlt⟩
        have ca := Hc.out i x hxi
        have Hxi := Aside0.mk hxi
        clear hxi
        by_cases hxy : x = k + i
        · subst hxy
          go_wp2
          go_roundw
          case rel => exact ⟨i + 1, by omega, by go_num, by go_num, ⟨take_next ht.out Hxi.out (cntL_get k hlt)⟩, by first | rfl | trivial⟩
          case measure => simp [intOf]; omega
        · have hxy' : (x == k + i) = false := by simpa using hxy
          have hd : ¬ xs = cntL k xs.length := by
            intro he
            have h3 := cntL_get k hlt
            rw [← he, Hxi.out] at h3
            exact hxy (Option.some.inj h3)
          go_wp2
          go_ret
          exact ⟨ret_int (by unfold heldR; rw [if_neg hd]), 0, rfl⟩
      · obtain rfl : i = xs.length := by omega
        have hd : xs = cntL k xs.length := by
          have h1 := ht.out
          rwa [List.take_of_length_le (by omega), List.take_of_length_le (by rw [cntL_length]; omega)] at h1
        have Hd := Aside0.mk hd
        clear hd
        go_wp2
        go_ret
        exact ⟨ret_int (by unfold heldR; rw [if_pos Hd.out]), 0, rfl⟩
  · have h2 : xs = [] := List.eq_nil_of_length_eq_zero (by omega)
    subst h2
    obtain ⟨A, ca, rfl, _, _⟩ := h
    go_enter Try.func113, Try.ntmps113
    go_wp2
    refine wp_loop_rounds 1 ?_
    rw [rounds_succ]
    go_wp2
    go_ret
    exact ⟨by simp [heldR, cntL], 0, rfl⟩
set_option maxHeartbeats 1000000 in
/-- left, less a row: what is left, if it is at least 0. -/
theorem c_szIntS {w : World} {v : Value} {xs : List Int} {left : Int} (h : RK (Kd.int .i64) w v xs) (h0 : 0 ≤ left) (h1 : left ≤ 9223372036854775807) :
    Calls Try.prog 94 #[v, .int .i64 left] w fun e w' => e = .returned (.int .i64 (if left - xs.length < 0 then -1 else left - xs.length)) ∧ ∃ n, w' = w.drewN n := by
  have lx := RK_len h
  obtain ⟨A, ca, rfl, _, _⟩ := h
  by_cases hl : left - xs.length < 0
  · rw [if_pos hl]
    go_enter Try.func94, Try.ntmps94
    go_wp2
    go_ret
    exact ⟨rfl, 0, rfl⟩
  · rw [if_neg hl]
    go_enter Try.func94, Try.ntmps94
    go_wp2
    go_ret
    exact ⟨rfl, 0, rfl⟩
theorem c_within (n lo hi : Int) (w : World) : Calls Try.prog 120 #[.int .i64 n, .int .i64 lo, .int .i64 hi] w fun e w' => e = .returned (.bool (inR n lo hi)) ∧ ∃ n, w' = w.drewN n := by
  have hin : inR n lo hi = (decide (lo ≤ n) && decide (n ≤ hi)) := rfl
  by_cases h1 : lo ≤ n
  · by_cases h2 : n ≤ hi
    · rw [hin]
      go_enter Try.func120, Try.ntmps120
      go_wp2
      go_ret
      exact ⟨ret_bool (by simp [hin]; omega), 0, rfl⟩
    · rw [hin]
      go_enter Try.func120, Try.ntmps120
      go_wp2
      go_ret
      exact ⟨ret_bool (by simp [hin]; omega), 0, rfl⟩
  · go_enter Try.func120, Try.ntmps120
    go_wp2
    go_ret
    exact ⟨ret_bool (by simp [hin]; omega), 0, rfl⟩
theorem c_l1In (n lo hi : Int) (w : World) : Calls Try.prog 96 #[.int .i64 n, .int .i64 lo, .int .i64 hi] w fun e w' => e = .returned (.bool (inR n lo hi)) ∧ ∃ n, w' = w.drewN n := by
  have hin : inR n lo hi = (decide (lo ≤ n) && decide (n ≤ hi)) := rfl
  by_cases h1 : lo ≤ n
  · by_cases h2 : n ≤ hi
    · go_enter Try.func96, Try.ntmps96
      go_wp2
      go_ret
      exact ⟨ret_bool (by simp [hin]; omega), 0, rfl⟩
    · go_enter Try.func96, Try.ntmps96
      go_wp2
      go_ret
      exact ⟨ret_bool (by simp [hin]; omega), 0, rfl⟩
  · go_enter Try.func96, Try.ntmps96
    go_wp2
    go_ret
    exact ⟨ret_bool (by simp [hin]; omega), 0, rfl⟩
theorem c_isWord (n : Int) (w : World) : Calls Try.prog 156 #[.int .i64 n] w fun e w' => e = .returned (.bool (inR n 0 65535)) ∧ ∃ n, w' = w.drewN n := by
  go_enter Try.func156, Try.ntmps156
  go_wp2_with (first | (go_at_call 120; refine (c_within _ _ _ _).mono ?_; rintro e w1 ⟨rfl, n1, rfl⟩) | fail)
  go_ret
  exact ⟨rfl, _, rfl⟩
theorem c_l1Word (n : Int) (w : World) : Calls Try.prog 157 #[.int .i64 n] w fun e w' => e = .returned (.bool (inR n 0 65535)) ∧ ∃ n, w' = w.drewN n := by
  go_enter Try.func157, Try.ntmps157
  go_wp2_with (first | (go_at_call 96; refine (c_l1In _ _ _ _).mono ?_; rintro e w1 ⟨rfl, n1, rfl⟩) | fail)
  go_ret
  exact ⟨rfl, _, rfl⟩
set_option maxHeartbeats 1000000 in
theorem c_wordsOk {w : World} {v : Value} {xs : List Int} (h : RK (Kd.int .i64) w v xs) :
    Calls Try.prog 136 #[v] w fun e w' => e = .returned (.bool (xs.all isW)) ∧ ∃ n, w' = w.drewN n := by
  have lx := RK_len h
  by_cases hn : 0 < xs.length
  · obtain ⟨ad, cap, rfl, hc⟩ := ints_at h hn
    have Hc := Aside0.mk hc
    clear h hc
    go_enter Try.func136, Try.ntmps136
    go_wp2
    go_loopw [7] (fun v7 wr => ∃ i : Nat, i ≤ xs.length ∧ v7 = .int .i64 i ∧ Aside0 ((xs.take i).all isW = true) ∧ ∃ n, wr = w.drewN n) (fun v7 _ => xs.length - (intOf v7).toNat)
    case atStart => exact ⟨0, by omega, rfl, ⟨by simp⟩, 0, rfl⟩
    case round =>
      obtain ⟨i, hi, rfl, ht, n, rfl⟩ := hrel
      by_cases hlt : i < xs.length
      · obtain ⟨x, hxi⟩ : ∃ x, xs[i]? = some x := ⟨_, List.getElem?_eq_getElem hlt⟩
        have ca := Hc.out i x hxi
        have Hxi := Aside0.mk hxi
        clear hxi
        have hw : inR x 0 65535 = isW x := rfl
        by_cases hf : isW x = true
        · go_wp2_with (first | (go_at_call 156; refine (c_isWord _ _).mono ?_; rintro e w1 ⟨rfl, n1, rfl⟩; rw [hw, hf]) | fail)
          go_roundw
          case rel => exact ⟨i + 1, by omega, by go_num, ⟨all_take ht.out Hxi.out hf⟩, by first | exact ⟨_, rfl⟩ | exact ⟨_, World.drewN_drewN _ _ _⟩⟩
          case measure => simp [intOf]; omega
        · simp only [Bool.not_eq_true] at hf
          go_wp2_with (first | (go_at_call 156; refine (c_isWord _ _).mono ?_; rintro e w1 ⟨rfl, n1, rfl⟩; rw [hw, hf]) | fail)
          go_ret
          exact ⟨ret_bool (all_not Hxi.out hf).symm, by first | exact ⟨_, rfl⟩ | exact ⟨_, World.drewN_drewN _ _ _⟩⟩
      · obtain rfl : i = xs.length := by omega
        have hd : xs.all isW = true := by
          have h1 := ht.out
          rwa [List.take_of_length_le (by omega)] at h1
        go_wp2
        go_ret
        exact ⟨ret_bool hd.symm, n, rfl⟩
  · have h2 : xs = [] := List.eq_nil_of_length_eq_zero (by omega)
    subst h2
    obtain ⟨A, ca, rfl, _, _⟩ := h
    go_enter Try.func136, Try.ntmps136
    go_wp2
    refine wp_loop_rounds 1 ?_
    rw [rounds_succ]
    go_wp2
    go_ret
    exact ⟨rfl, 0, rfl⟩
set_option maxHeartbeats 1000000 in
theorem c_l1Words {w : World} {v : Value} {xs : List Int} (h : RK (Kd.int .i64) w v xs) :
    Calls Try.prog 137 #[v] w fun e w' => e = .returned (.bool (xs.all isW)) ∧ ∃ n, w' = w.drewN n := by
  have lx := RK_len h
  by_cases hn : 0 < xs.length
  · obtain ⟨ad, cap, rfl, hc⟩ := ints_at h hn
    have Hc := Aside0.mk hc
    clear h hc
    go_enter Try.func137, Try.ntmps137
    go_wp2
    go_loopw [3] (fun v3 wr => ∃ i : Nat, i ≤ xs.length ∧ v3 = .int .i64 i ∧ Aside0 ((xs.take i).all isW = true) ∧ ∃ n, wr = w.drewN n) (fun v3 _ => xs.length - (intOf v3).toNat)
    case atStart => exact ⟨0, by omega, rfl, ⟨by simp⟩, 0, rfl⟩
    case round =>
      obtain ⟨i, hi, rfl, ht, n, rfl⟩ := hrel
      by_cases hlt : i < xs.length
      · obtain ⟨x, hxi⟩ : ∃ x, xs[i]? = some x := ⟨_, List.getElem?_eq_getElem hlt⟩
        have ca := Hc.out i x hxi
        have Hxi := Aside0.mk hxi
        clear hxi
        have hw : inR x 0 65535 = isW x := rfl
        by_cases hf : isW x = true
        · go_wp2_with (first | (go_at_call 157; refine (c_l1Word _ _).mono ?_; rintro e w1 ⟨rfl, n1, rfl⟩; rw [hw, hf]) | fail)
          go_roundw
          case rel => exact ⟨i + 1, by omega, by go_num, ⟨all_take ht.out Hxi.out hf⟩, by first | exact ⟨_, rfl⟩ | exact ⟨_, World.drewN_drewN _ _ _⟩⟩
          case measure => simp [intOf]; omega
        · simp only [Bool.not_eq_true] at hf
          go_wp2_with (first | (go_at_call 157; refine (c_l1Word _ _).mono ?_; rintro e w1 ⟨rfl, n1, rfl⟩; rw [hw, hf]) | fail)
          go_ret
          exact ⟨ret_bool (all_not Hxi.out hf).symm, by first | exact ⟨_, rfl⟩ | exact ⟨_, World.drewN_drewN _ _ _⟩⟩
      · obtain rfl : i = xs.length := by omega
        have hd : xs.all isW = true := by
          have h1 := ht.out
          rwa [List.take_of_length_le (by omega)] at h1
        go_wp2
        go_ret
        exact ⟨ret_bool hd.symm, n, rfl⟩
  · have h2 : xs = [] := List.eq_nil_of_length_eq_zero (by omega)
    subst h2
    obtain ⟨A, ca, rfl, _, _⟩ := h
    go_enter Try.func137, Try.ntmps137
    go_wp2
    refine wp_loop_rounds 1 ?_
    rw [rounds_succ]
    go_wp2
    go_ret
    exact ⟨rfl, 0, rfl⟩
theorem c_implSecOk {w : World} {v : Value} {xs : List Int} (h : RK (Kd.int .i64) w v xs) :
    Calls Try.prog 70 #[v] w fun e w' => e = .returned (.bool (secB xs)) ∧ ∃ n, w' = w.drewN n := by
  have lx := RK_len h
  obtain ⟨A, ca, rfl, hr⟩ := id h
  have H := Aside0.mk h
  clear h hr
  unfold secB
  by_cases hl : xs.length ≤ 12
  · go_enter Try.func70, Try.ntmps70
    go_wp2_with (first | (go_at_call 136; refine (c_wordsOk H.out).mono ?_; rintro e w1 ⟨rfl, n1, rfl⟩) | fail)
    go_ret
    exact ⟨ret_bool (by simp [hl]), _, rfl⟩
  · go_enter Try.func70, Try.ntmps70
    go_wp2
    go_ret
    exact ⟨ret_bool (by simp [hl]), 0, rfl⟩
theorem c_specSecOk {w : World} {v : Value} {xs : List Int} (h : RK (Kd.int .i64) w v xs) :
    Calls Try.prog 121 #[v] w fun e w' => e = .returned (.bool (secB xs)) ∧ ∃ n, w' = w.drewN n := by
  have lx := RK_len h
  obtain ⟨A, ca, rfl, hr⟩ := id h
  have H := Aside0.mk h
  clear h hr
  unfold secB
  by_cases hl : xs.length ≤ 12
  · go_enter Try.func121, Try.ntmps121
    go_wp2_with (first | (go_at_call 137; refine (c_l1Words H.out).mono ?_; rintro e w1 ⟨rfl, n1, rfl⟩) | fail)
    go_ret
    exact ⟨ret_bool (by simp [hl]), _, rfl⟩
  · go_enter Try.func121, Try.ntmps121
    go_wp2
    go_ret
    exact ⟨ret_bool (by simp [hl]), 0, rfl⟩
set_option maxHeartbeats 1000000 in
theorem c_l2Has {w : World} {v : Value} {xs : List Int} {n : Int} (h : RK (Kd.int .i64) w v xs) :
    Calls Try.prog 97 #[v, .int .i64 n] w fun e w' => e = .returned (.bool (!(xs.all (fun x => !(x == n))))) ∧ ∃ n, w' = w.drewN n := by
  have lx := RK_len h
  by_cases hn : 0 < xs.length
  · obtain ⟨ad, cap, rfl, hc⟩ := ints_at h hn
    have Hc := Aside0.mk hc
    clear h hc
    go_enter Try.func97, Try.ntmps97
    go_wp2
    go_loopw [5] (fun v5 wr => ∃ i : Nat, i ≤ xs.length ∧ v5 = .int .i64 i ∧ Aside0 ((xs.take i).all (fun x => !(x == n)) = true) ∧ wr = w) (fun v5 _ => xs.length - (intOf v5).toNat)
    case atStart => exact ⟨0, by omega, rfl, ⟨by simp⟩, rfl⟩
    case round =>
      obtain ⟨i, hi, rfl, ht, rfl⟩ := hrel
      by_cases hlt : i < xs.length
      · obtain ⟨x, hxi⟩ : ∃ x, xs[i]? = some x := ⟨_, List.getElem?_eq_getElem hlt⟩
        have ca := Hc.out i x hxi
        have Hxi := Aside0.mk hxi
        clear hxi
        by_cases hxy : x = n
        · subst hxy
          go_wp2
          go_ret
          exact ⟨ret_bool (by rw [all_not Hxi.out (by simp)]; rfl), 0, rfl⟩
        · have hxy' : (x == n) = false := by simpa using hxy
          go_wp2
          go_roundw
          case rel => exact ⟨i + 1, by omega, by go_num, ⟨all_take ht.out Hxi.out (by simp [hxy'])⟩, by first | rfl | trivial⟩
          case measure => simp [intOf]; omega
      · obtain rfl : i = xs.length := by omega
        have hd : xs.all (fun x => !(x == n)) = true := by
          have h1 := ht.out
          rwa [List.take_of_length_le (by omega)] at h1
        go_wp2
        go_ret
        exact ⟨ret_bool (by rw [hd]; rfl), 0, rfl⟩
  · have h2 : xs = [] := List.eq_nil_of_length_eq_zero (by omega)
    subst h2
    obtain ⟨A, ca, rfl, _, _⟩ := h
    go_enter Try.func97, Try.ntmps97
    go_wp2
    refine wp_loop_rounds 1 ?_
    rw [rounds_succ]
    go_wp2
    go_ret
    exact ⟨rfl, 0, rfl⟩
set_option maxHeartbeats 1000000 in
theorem c_Index {w : World} {v : Value} {xs : List Int} {n : Int} (h : RK (Kd.int .i64) w v xs) :
    Calls Try.prog 149 #[v, .int .i64 n] w fun e w' => (∃ j : Int, e = .returned (.int .i64 j) ∧ decide (0 ≤ j) = !(xs.all (fun x => !(x == n)))) ∧ ∃ n, w' = w.drewN n := by
  have lx := RK_len h
  by_cases hn : 0 < xs.length
  · obtain ⟨ad, cap, rfl, hc⟩ := ints_at h hn
    have Hc := Aside0.mk hc
    clear h hc
    go_enter Try.func149, Try.ntmps149
    go_wp2
    go_loopw [8] (fun v5 wr => ∃ i : Nat, i ≤ xs.length ∧ v5 = .int .i64 i ∧ Aside0 ((xs.take i).all (fun x => !(x == n)) = true) ∧ wr = w) (fun v5 _ => xs.length - (intOf v5).toNat)
    case atStart => exact ⟨0, by omega, rfl, ⟨by simp⟩, rfl⟩
    case round =>
      obtain ⟨i, hi, rfl, ht, rfl⟩ := hrel
      by_cases hlt : i < xs.length
      · obtain ⟨x, hxi⟩ : ∃ x, xs[i]? = some x := ⟨_, List.getElem?_eq_getElem hlt⟩
        have ca := Hc.out i x hxi
        have Hxi := Aside0.mk hxi
        clear hxi
        by_cases hxy : x = n
        · subst hxy
          go_wp2
          go_ret
          exact ⟨⟨_, rfl, by rw [all_not Hxi.out (by simp)]; simp⟩, 0, rfl⟩
        · have hxy' : (n == x) = false := by simpa using (Ne.symm hxy)
          go_wp2
          go_roundw
          case rel => exact ⟨i + 1, by omega, by go_num, ⟨all_take ht.out Hxi.out (by simpa using hxy)⟩, by first | rfl | trivial⟩
          case measure => simp [intOf]; omega
      · obtain rfl : i = xs.length := by omega
        have hd : xs.all (fun x => !(x == n)) = true := by
          have h1 := ht.out
          rwa [List.take_of_length_le (by omega)] at h1
        go_wp2
        go_ret
        exact ⟨⟨_, rfl, by rw [hd]; rfl⟩, 0, rfl⟩
  · have h2 : xs = [] := List.eq_nil_of_length_eq_zero (by omega)
    subst h2
    obtain ⟨A, ca, rfl, _, _⟩ := h
    go_enter Try.func149, Try.ntmps149
    go_wp2
    refine wp_loop_rounds 1 ?_
    rw [rounds_succ]
    go_wp2
    go_ret
    exact ⟨⟨_, rfl, rfl⟩, 0, rfl⟩
theorem c_Contains {w : World} {v : Value} {xs : List Int} {n : Int} (h : RK (Kd.int .i64) w v xs) :
    Calls Try.prog 117 #[v, .int .i64 n] w fun e w' => e = .returned (.bool (!(xs.all (fun x => !(x == n))))) ∧ ∃ n, w' = w.drewN n := by
  obtain ⟨A, ca, rfl, hr⟩ := id h
  have H := Aside0.mk h
  clear h hr
  go_enter Try.func117, Try.ntmps117
  go_wp2_with (first | (go_at_call 149; refine (c_Index H.out).mono ?_; rintro e w1 ⟨⟨j, rfl, hj⟩, n1, rfl⟩; have Hj := Aside0.mk hj; clear hj) | fail)
  go_ret
  exact ⟨ret_bool (by rw [← Hj.out]), _, rfl⟩
end Go.Proofs.Ytlmnmcfieagmbaa.MInt
