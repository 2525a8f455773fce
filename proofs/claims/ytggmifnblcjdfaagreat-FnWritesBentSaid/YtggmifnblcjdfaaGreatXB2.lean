/- Own text: MInt MMake MKinds MRead MPut Sep SepStep SepMore. -/
import Derived.Test.YtggmifnblcjdfaaGreatProg
import Derived.Test.YtggmifnblcjdfaaGreatXB1
import Derived.OwnWalk
import Derived.WalkKit
import Derived.KernelRfl
import Derived.Deep.LoopGhost
import Derived.Deep.QuietTactic
import Derived.BigQuiet
import Derived.Tactics
import Derived.RowKit3
import Derived.Deep.RegionHeld3
import Derived.Deep.AppendLies
import Derived.StillTailTactics
import Derived.Deep.DrawnRows
import Derived.Deep.DeepCutAuto
import Derived.Tactics2
set_option linter.unusedVariables false
set_option linter.unusedSimpArgs false
namespace Go.Proofs.YtggmifnblcjdfaaGreat
namespace MInt
open Go.RowKit Go.Proofs.YtggmifnblcjdfaaGreatW.PrintWords Fp
theorem ints_at {k : IntKind} {w : World} {v : Value} {l : List Int} (h : RK (Kd.int k) w v l) (hn : 0 < l.length) : ∃ ad cap, v = .slice (some ad) l.length cap ∧ ∀ (i : Nat) (x : Int), l[i]? = some x → w.cell? (ad.add i) = some (.int k x) := by
 obtain ⟨A, cap, rfl, hl, hC⟩ := h
 obtain ⟨ad, rfl, hc⟩ := hC.2.2 hn
 refine ⟨ad, cap, rfl, fun i x hi => ?_⟩
 obtain ⟨c, _, hK, hcell⟩ := hc i x hi
 obtain rfl : c = [.int k x] := hK
 have := hcell 0 _ rfl
 simpa [Kd.int, Kd.scalar] using this
theorem ret_bool {b c : Bool} (h : b = c) : Ending.returned (.bool b) = .returned (.bool c) := by rw [h]
theorem ret_int {k : IntKind} {b c : Int} (h : b = c) : Ending.returned (.int k b) = .returned (.int k c) := by rw [h]
theorem below_drawn {w w' : World} (h : ∃ n, w' = w.drewN n) : Below w.heap.size w w' := by
 obtain ⟨n, rfl⟩ := h
 exact pw_below_drewN (Below.refl _ _) n
theorem take_next {α : Type} {l m : List α} {i : Nat} {x : α} (h : l.take i = m.take i) (hl : l[i]? = some x) (hm : m[i]? = some x) : l.take (i + 1) = m.take (i + 1) := by
 obtain ⟨h1, h2⟩ := List.getElem?_eq_some_iff.1 hl
 obtain ⟨h3, h4⟩ := List.getElem?_eq_some_iff.1 hm
 rw [List.take_succ_eq_append_getElem h1, List.take_succ_eq_append_getElem h3, h, h2, h4]
theorem O_int_cell {k : IntKind} {e : TypeId} {w : World} {F : List Nat} {g n cap : Nat} {l : List Int} (h : (Od.int k).O e w F (.slice (some ⟨g, 0, none⟩) n cap) l) {i : Nat} (hi : i < l.length) :
  w.cell? ⟨g, i, none⟩ = some (.int k l[i]) ∧ w.frozen? ⟨g, i, none⟩ = false := by
 obtain ⟨c, G, hM, _, hc, hf, _⟩ := O_elem h (List.getElem?_eq_getElem hi)
 obtain ⟨_, rfl⟩ := hM
 have h1 := hc 0 _ rfl
 have h2 := hf 0
 simp only [show (Od.int k).sz = 1 from rfl, Nat.mul_one, Nat.add_zero] at h1 h2
 exact ⟨h1, h2⟩
theorem O_int_set {k : IntKind} {e : TypeId} {w : World} {F : List Nat} {g n cap : Nat} {l : List Int} (h : (Od.int k).O e w F (.slice (some ⟨g, 0, none⟩) n cap) l) {i : Nat} (hi : i < l.length) (x : Int) :
  (Od.int k).O e (w.setCell ⟨g, i, none⟩ (.int k x)) F (.slice (some ⟨g, 0, none⟩) n cap) (l.set i x) := by
 obtain ⟨hr, rfl⟩ := O_int_row h
 have hn : n = l.length := by
  rcases hr.2 with ⟨h', _⟩ | ⟨_, _, _, h', _⟩ <;> simp at h'
  exact h'.2.1
 subst hn
 have hs := (own_store hr (i : Int) x).1
 simp only [Int.toNat_natCast] at hs
 exact O_int k hs (by simp)
def inR (n lo hi : Int) : Bool := decide (lo ≤ n) && decide (n ≤ hi)
def isW (n : Int) : Bool := inR n 0 65535
theorem all_take {α : Type} {f : α → Bool} {l : List α} {i : Nat} {x : α} (h : (l.take i).all f = true) (hx : l[i]? = some x) (hf : f x = true) : (l.take (i + 1)).all f = true := by
 obtain ⟨h1, h2⟩ := List.getElem?_eq_some_iff.1 hx
 rw [List.take_succ_eq_append_getElem h1, List.all_append, h, h2]; simp [hf]
theorem all_not {α : Type} {f : α → Bool} {l : List α} {i : Nat} {x : α} (hx : l[i]? = some x) (hf : f x = false) : l.all f = false := by
 rw [List.all_eq_false]
 exact ⟨x, List.mem_of_getElem? hx, by simp [hf]⟩
def secB (xs : List Int) : Bool := decide (xs.length ≤ 12) && xs.all isW
set_option maxHeartbeats 1000000 in
theorem c_eqIntS {w : World} {v u : Value} {xs ys : List Int} (hx : RK (Kd.int .i64) w v xs) (hy : RK (Kd.int .i64) w u ys) :
  Calls Tryz.prog 11 #[v, u] w fun e w' => e = .returned (.bool (decide (xs = ys))) ∧ ∃ n, w' = w.drewN n := by
 have lx := RK_len hx
 have ly := RK_len hy
 by_cases hne : xs.length = ys.length
 ·by_cases h0 : 0 < xs.length
  ·obtain ⟨a, ca, rfl, ha⟩ := ints_at hx h0
   obtain ⟨b, cb, rfl, hb⟩ := ints_at hy (by omega)
   have Ha := Aside0.mk ha
   have Hb := Aside0.mk hb
   have Hne := Aside0.mk hne
   rw [← hne]
   clear ha hb hx hy hne
   go_enter Tryz.func11, Tryz.ntmps11
   go_wp2
   go_loopw [5] (fun v5 wr => ∃ i : Nat, i ≤ xs.length ∧ v5 = .int .i64 i ∧ Aside0 (xs.take i = ys.take i) ∧ ∃ n, wr = w.drewN n) (fun v5 _ => xs.length - (intOf v5).toNat)
   case atStart => exact ⟨0, by omega, rfl, ⟨rfl⟩, 0, rfl⟩
   case round =>
    obtain ⟨i, hi, rfl, ht, n, rfl⟩ := hrel
    by_cases hlt : i < xs.length
    ·have hlt' : i < ys.length := by have := Hne.out; omega
     obtain ⟨x, hxi⟩ : ∃ x, xs[i]? = some x := ⟨_, List.getElem?_eq_getElem hlt⟩
     obtain ⟨y, hyi⟩ : ∃ y, ys[i]? = some y := ⟨_, List.getElem?_eq_getElem hlt'⟩
     have ca := Ha.out i x hxi
     have cb := Hb.out i y hyi
     have Hxi := Aside0.mk hxi
     have Hyi := Aside0.mk hyi
     clear hxi hyi
     by_cases hxy : x = y
     ·subst hxy
      go_wp2
      go_quiet (fail)
      go_wp2
      go_roundw
      case rel => exact ⟨i + 1, by omega, by go_num, ⟨take_next ht.out Hxi.out Hyi.out⟩, _, rfl⟩
      case measure => simp [intOf]; omega
     ·have hxy' : (x == y) = false := by simpa using hxy
      have hd : decide (xs = ys) = false := by
       rw [decide_eq_false_iff_not]; rintro rfl
       have := Hxi.out.symm.trans Hyi.out
       exact hxy (Option.some.inj this)
      go_wp2
      go_quiet (fail)
      go_wp2
      go_ret
      exact ⟨ret_bool hd.symm, by first | exact ⟨_, rfl⟩ | exact ⟨_, World.drewN_drewN _ _ _⟩⟩
    ·obtain rfl : i = xs.length := by omega
     have hd : decide (xs = ys) = true := by
      rw [decide_eq_true_eq]
      have h1 := ht.out
      have h2 := Hne.out
      rwa [List.take_of_length_le (by omega), List.take_of_length_le (by omega)] at h1
     go_wp2
     go_ret
     exact ⟨ret_bool hd.symm, n, rfl⟩
  ·have h1 : xs = [] := List.eq_nil_of_length_eq_zero (by omega)
   have h2 : ys = [] := List.eq_nil_of_length_eq_zero (by omega)
   subst h1 h2
   obtain ⟨A, ca, rfl, _, _⟩ := hx
   obtain ⟨B, cb, rfl, _, _⟩ := hy
   go_enter Tryz.func11, Tryz.ntmps11
   go_wp2
   refine wp_loop_rounds 1 ?_
   rw [rounds_succ]
   go_wp2
   go_ret
   exact ⟨rfl, 0, rfl⟩
 ·obtain ⟨A, ca, rfl, _, _⟩ := hx
  obtain ⟨B, cb, rfl, _, _⟩ := hy
  have hd : decide (xs = ys) = false := by rw [decide_eq_false_iff_not]; rintro rfl; exact hne rfl
  go_enter Tryz.func11, Tryz.ntmps11
  go_wp2
  go_ret
  exact ⟨ret_bool hd.symm, 0, rfl⟩
theorem c_within (n lo hi : Int) (w : World) : Calls Tryz.prog 78 #[.int .i64 n, .int .i64 lo, .int .i64 hi] w fun e w' => e = .returned (.bool (inR n lo hi)) ∧ ∃ n, w' = w.drewN n := by
 have hin : inR n lo hi = (decide (lo ≤ n) && decide (n ≤ hi)) := rfl
 by_cases h1 : lo ≤ n
 ·by_cases h2 : n ≤ hi
  ·rw [hin]
   go_enter Tryz.func78, Tryz.ntmps78
   go_wp2
   go_ret
   exact ⟨ret_bool (by simp [hin]; omega), 0, rfl⟩
  ·rw [hin]
   go_enter Tryz.func78, Tryz.ntmps78
   go_wp2
   go_ret
   exact ⟨ret_bool (by simp [hin]; omega), 0, rfl⟩
 ·go_enter Tryz.func78, Tryz.ntmps78
  go_wp2
  go_ret
  exact ⟨ret_bool (by simp [hin]; omega), 0, rfl⟩
theorem c_l1In (n lo hi : Int) (w : World) : Calls Tryz.prog 70 #[.int .i64 n, .int .i64 lo, .int .i64 hi] w fun e w' => e = .returned (.bool (inR n lo hi)) ∧ ∃ n, w' = w.drewN n := by
 have hin : inR n lo hi = (decide (lo ≤ n) && decide (n ≤ hi)) := rfl
 by_cases h1 : lo ≤ n
 ·by_cases h2 : n ≤ hi
  ·go_enter Tryz.func70, Tryz.ntmps70
   go_wp2
   go_ret
   exact ⟨ret_bool (by simp [hin]; omega), 0, rfl⟩
  ·go_enter Tryz.func70, Tryz.ntmps70
   go_wp2
   go_ret
   exact ⟨ret_bool (by simp [hin]; omega), 0, rfl⟩
 ·go_enter Tryz.func70, Tryz.ntmps70
  go_wp2
  go_ret
  exact ⟨ret_bool (by simp [hin]; omega), 0, rfl⟩
theorem c_isWord (n : Int) (w : World) : Calls Tryz.prog 128 #[.int .i64 n] w fun e w' => e = .returned (.bool (inR n 0 65535)) ∧ ∃ n, w' = w.drewN n := by
 go_enter Tryz.func128, Tryz.ntmps128
 go_wp2_with (first | (go_at_call 78; refine (c_within _ _ _ _).mono ?_; rintro e w1 ⟨rfl, n1, rfl⟩) | fail)
 go_ret
 exact ⟨rfl, _, rfl⟩
theorem c_l1Word (n : Int) (w : World) : Calls Tryz.prog 117 #[.int .i64 n] w fun e w' => e = .returned (.bool (inR n 0 65535)) ∧ ∃ n, w' = w.drewN n := by
 go_enter Tryz.func117, Tryz.ntmps117
 go_wp2_with (first | (go_at_call 70; refine (c_l1In _ _ _ _).mono ?_; rintro e w1 ⟨rfl, n1, rfl⟩) | fail)
 go_ret
 exact ⟨rfl, _, rfl⟩
set_option maxHeartbeats 1000000 in
theorem c_wordsOk {w : World} {v : Value} {xs : List Int} (h : RK (Kd.int .i64) w v xs) :
  Calls Tryz.prog 83 #[v] w fun e w' => e = .returned (.bool (xs.all isW)) ∧ ∃ n, w' = w.drewN n := by
 have lx := RK_len h
 by_cases hn : 0 < xs.length
 ·obtain ⟨ad, cap, rfl, hc⟩ := ints_at h hn
  have Hc := Aside0.mk hc
  clear h hc
  go_enter Tryz.func83, Tryz.ntmps83
  go_wp2
  go_loopw [7] (fun v7 wr => ∃ i : Nat, i ≤ xs.length ∧ v7 = .int .i64 i ∧ Aside0 ((xs.take i).all isW = true) ∧ ∃ n, wr = w.drewN n) (fun v7 _ => xs.length - (intOf v7).toNat)
  case atStart => exact ⟨0, by omega, rfl, ⟨by simp⟩, 0, rfl⟩
  case round =>
   obtain ⟨i, hi, rfl, ht, n, rfl⟩ := hrel
   by_cases hlt : i < xs.length
   ·obtain ⟨x, hxi⟩ : ∃ x, xs[i]? = some x := ⟨_, List.getElem?_eq_getElem hlt⟩
    have ca := Hc.out i x hxi
    have Hxi := Aside0.mk hxi
    clear hxi
    have hw : inR x 0 65535 = isW x := rfl
    by_cases hf : isW x = true
    ·go_wp2_with (first | (go_at_call 128; refine (c_isWord _ _).mono ?_; rintro e w1 ⟨rfl, n1, rfl⟩; rw [hw, hf]) | fail)
     go_roundw
     case rel => exact ⟨i + 1, by omega, by go_num, ⟨all_take ht.out Hxi.out hf⟩, by first | exact ⟨_, rfl⟩ | exact ⟨_, World.drewN_drewN _ _ _⟩⟩
     case measure => simp [intOf]; omega
    ·simp only [Bool.not_eq_true] at hf
     go_wp2_with (first | (go_at_call 128; refine (c_isWord _ _).mono ?_; rintro e w1 ⟨rfl, n1, rfl⟩; rw [hw, hf]) | fail)
     go_ret
     exact ⟨ret_bool (all_not Hxi.out hf).symm, by first | exact ⟨_, rfl⟩ | exact ⟨_, World.drewN_drewN _ _ _⟩⟩
   ·obtain rfl : i = xs.length := by omega
    have hd : xs.all isW = true := by
     have h1 := ht.out
     rwa [List.take_of_length_le (by omega)] at h1
    go_wp2
    go_ret
    exact ⟨ret_bool hd.symm, n, rfl⟩
 ·have h2 : xs = [] := List.eq_nil_of_length_eq_zero (by omega)
  subst h2
  obtain ⟨A, ca, rfl, _, _⟩ := h
  go_enter Tryz.func83, Tryz.ntmps83
  go_wp2
  refine wp_loop_rounds 1 ?_
  rw [rounds_succ]
  go_wp2
  go_ret
  exact ⟨rfl, 0, rfl⟩
set_option maxHeartbeats 1000000 in
theorem c_l1Words {w : World} {v : Value} {xs : List Int} (h : RK (Kd.int .i64) w v xs) :
  Calls Tryz.prog 69 #[v] w fun e w' => e = .returned (.bool (xs.all isW)) ∧ ∃ n, w' = w.drewN n := by
 have lx := RK_len h
 by_cases hn : 0 < xs.length
 ·obtain ⟨ad, cap, rfl, hc⟩ := ints_at h hn
  have Hc := Aside0.mk hc
  clear h hc
  go_enter Tryz.func69, Tryz.ntmps69
  go_wp2
  go_loopw [3] (fun v3 wr => ∃ i : Nat, i ≤ xs.length ∧ v3 = .int .i64 i ∧ Aside0 ((xs.take i).all isW = true) ∧ ∃ n, wr = w.drewN n) (fun v3 _ => xs.length - (intOf v3).toNat)
  case atStart => exact ⟨0, by omega, rfl, ⟨by simp⟩, 0, rfl⟩
  case round =>
   obtain ⟨i, hi, rfl, ht, n, rfl⟩ := hrel
   by_cases hlt : i < xs.length
   ·obtain ⟨x, hxi⟩ : ∃ x, xs[i]? = some x := ⟨_, List.getElem?_eq_getElem hlt⟩
    have ca := Hc.out i x hxi
    have Hxi := Aside0.mk hxi
    clear hxi
    have hw : inR x 0 65535 = isW x := rfl
    by_cases hf : isW x = true
    ·go_wp2_with (first | (go_at_call 117; refine (c_l1Word _ _).mono ?_; rintro e w1 ⟨rfl, n1, rfl⟩; rw [hw, hf]) | fail)
     go_roundw
     case rel => exact ⟨i + 1, by omega, by go_num, ⟨all_take ht.out Hxi.out hf⟩, by first | exact ⟨_, rfl⟩ | exact ⟨_, World.drewN_drewN _ _ _⟩⟩
     case measure => simp [intOf]; omega
    ·simp only [Bool.not_eq_true] at hf
     go_wp2_with (first | (go_at_call 117; refine (c_l1Word _ _).mono ?_; rintro e w1 ⟨rfl, n1, rfl⟩; rw [hw, hf]) | fail)
     go_ret
     exact ⟨ret_bool (all_not Hxi.out hf).symm, by first | exact ⟨_, rfl⟩ | exact ⟨_, World.drewN_drewN _ _ _⟩⟩
   ·obtain rfl : i = xs.length := by omega
    have hd : xs.all isW = true := by
     have h1 := ht.out
     rwa [List.take_of_length_le (by omega)] at h1
    go_wp2
    go_ret
    exact ⟨ret_bool hd.symm, n, rfl⟩
 ·have h2 : xs = [] := List.eq_nil_of_length_eq_zero (by omega)
  subst h2
  obtain ⟨A, ca, rfl, _, _⟩ := h
  go_enter Tryz.func69, Tryz.ntmps69
  go_wp2
  refine wp_loop_rounds 1 ?_
  rw [rounds_succ]
  go_wp2
  go_ret
  exact ⟨rfl, 0, rfl⟩
theorem c_implSecOk {w : World} {v : Value} {xs : List Int} (h : RK (Kd.int .i64) w v xs) :
  Calls Tryz.prog 126 #[v] w fun e w' => e = .returned (.bool (secB xs)) ∧ ∃ n, w' = w.drewN n := by
 have lx := RK_len h
 obtain ⟨A, ca, rfl, hr⟩ := id h
 have H := Aside0.mk h
 clear h hr
 unfold secB
 by_cases hl : xs.length ≤ 12
 ·go_enter Tryz.func126, Tryz.ntmps126
  go_wp2_with (first | (go_at_call 83; refine (c_wordsOk H.out).mono ?_; rintro e w1 ⟨rfl, n1, rfl⟩) | fail)
  go_ret
  exact ⟨ret_bool (by simp [hl]), _, rfl⟩
 ·go_enter Tryz.func126, Tryz.ntmps126
  go_wp2
  go_ret
  exact ⟨ret_bool (by simp [hl]), 0, rfl⟩
theorem c_specSecOk {w : World} {v : Value} {xs : List Int} (h : RK (Kd.int .i64) w v xs) :
  Calls Tryz.prog 168 #[v] w fun e w' => e = .returned (.bool (secB xs)) ∧ ∃ n, w' = w.drewN n := by
 have lx := RK_len h
 obtain ⟨A, ca, rfl, hr⟩ := id h
 have H := Aside0.mk h
 clear h hr
 unfold secB
 by_cases hl : xs.length ≤ 12
 ·go_enter Tryz.func168, Tryz.ntmps168
  go_wp2_with (first | (go_at_call 69; refine (c_l1Words H.out).mono ?_; rintro e w1 ⟨rfl, n1, rfl⟩) | fail)
  go_ret
  exact ⟨ret_bool (by simp [hl]), _, rfl⟩
 ·go_enter Tryz.func168, Tryz.ntmps168
  go_wp2
  go_ret
  exact ⟨ret_bool (by simp [hl]), 0, rfl⟩
set_option maxHeartbeats 1000000 in
theorem c_l2Has {w : World} {v : Value} {xs : List Int} {n : Int} (h : RK (Kd.int .i64) w v xs) :
  Calls Tryz.prog 178 #[v, .int .i64 n] w fun e w' => e = .returned (.bool (!(xs.all (fun x => !(x == n))))) ∧ ∃ n, w' = w.drewN n := by
 have lx := RK_len h
 by_cases hn : 0 < xs.length
 ·obtain ⟨ad, cap, rfl, hc⟩ := ints_at h hn
  have Hc := Aside0.mk hc
  clear h hc
  go_enter Tryz.func178, Tryz.ntmps178
  go_wp2
  go_loopw [5] (fun v5 wr => ∃ i : Nat, i ≤ xs.length ∧ v5 = .int .i64 i ∧ Aside0 ((xs.take i).all (fun x => !(x == n)) = true) ∧ wr = w) (fun v5 _ => xs.length - (intOf v5).toNat)
  case atStart => exact ⟨0, by omega, rfl, ⟨by simp⟩, rfl⟩
  case round =>
   obtain ⟨i, hi, rfl, ht, rfl⟩ := hrel
   by_cases hlt : i < xs.length
   ·obtain ⟨x, hxi⟩ : ∃ x, xs[i]? = some x := ⟨_, List.getElem?_eq_getElem hlt⟩
    have ca := Hc.out i x hxi
    have Hxi := Aside0.mk hxi
    clear hxi
    by_cases hxy : x = n
    ·subst hxy
     go_wp2
     go_ret
     exact ⟨ret_bool (by rw [all_not Hxi.out (by simp)]; rfl), 0, rfl⟩
    ·have hxy' : (x == n) = false := by simpa using hxy
     go_wp2
     go_roundw
     case rel => exact ⟨i + 1, by omega, by go_num, ⟨all_take ht.out Hxi.out (by simp [hxy'])⟩, by first | rfl | trivial⟩
     case measure => simp [intOf]; omega
   ·obtain rfl : i = xs.length := by omega
    have hd : xs.all (fun x => !(x == n)) = true := by
     have h1 := ht.out
     rwa [List.take_of_length_le (by omega)] at h1
    go_wp2
    go_ret
    exact ⟨ret_bool (by rw [hd]; rfl), 0, rfl⟩
 ·have h2 : xs = [] := List.eq_nil_of_length_eq_zero (by omega)
  subst h2
  obtain ⟨A, ca, rfl, _, _⟩ := h
  go_enter Tryz.func178, Tryz.ntmps178
  go_wp2
  refine wp_loop_rounds 1 ?_
  rw [rounds_succ]
  go_wp2
  go_ret
  exact ⟨rfl, 0, rfl⟩
end MInt
namespace MMake
open Go.RowKit Go.Proofs.YtggmifnblcjdfaaGreatW.PrintWords Fp MInt
theorem lit0 {α : Type} (d : Od α) (e : TypeId) (w : World) : d.O e (w.alloc (.cells #[] e)) [w.heap.size] (.slice (some ⟨w.heap.size, 0, none⟩) 0 0) [] :=
 ⟨[], [], ⟨by simp, .inr ⟨w.heap.size, 0, #[], rfl, Nat.zero_le _, heap_alloc_new w _, Nat.le_refl _, Nat.zero_le _, by simp, by simp⟩⟩, rfl, rfl, fun j x G hx => by simp at hx⟩
set_option maxHeartbeats 1000000 in
set_option maxRecDepth 100000 in
theorem c_toIntS {w : World} {v : Value} {xs : List Int} (h : RK (Kd.int .i64) w v xs) (hl : xs.length ≤ 16777216) :
  Calls Tryz.prog 8 #[v] w fun e w' => ∃ u F, e = .returned u ∧ (Od.int .i64).O 3 w' F u xs ∧ Fresh w F ∧ Below w.heap.size w w' := by
 have lx := RK_len h
 obtain ⟨A, ca, rfl, hr⟩ := id h
 have H := Aside0.mk h
 clear h hr
 have hu := Tryz.underlying28
 go_enter Tryz.func8, Tryz.ntmps8
 go_wp2_with (first | (at_make; refine make_O (Od.int .i64) rfl rfl 28 3 _ _ rfl xs.length rfl rfl Tryz.underlying28 (.int .i64 0) 8 (by kernel_rfl) rfl (by decide) (by decide) 0 (fun _ => ⟨rfl, rfl⟩) (by omega) ?_; intro w1 ho hb; have HO := Aside0.mk ho; have HB := Aside0.mk hb; clear ho hb) | fail)
 go_loopw [4] (fun v4 wr => ∃ i : Nat, i ≤ xs.length ∧ v4 = .int .i64 i ∧ ∃ ys : List Int, Aside0 (ys.length = xs.length ∧ ys.take i = xs.take i ∧ (Od.int .i64).O 3 wr [w.heap.size] (.slice (some ⟨w.heap.size, 0, none⟩) xs.length xs.length) ys ∧ Below w.heap.size w wr)) (fun v4 _ => xs.length - (intOf v4).toNat)
 case atStart => exact ⟨0, by omega, rfl, List.replicate xs.length 0, ⟨by simp, by simp, HO.out, HB.out⟩⟩
 case round =>
  obtain ⟨i, hi, rfl, ys, hr⟩ := hrel
  by_cases hlt : i < xs.length
  ·obtain ⟨x, hxi⟩ : ∃ x, xs[i]? = some x := ⟨_, List.getElem?_eq_getElem hlt⟩
   obtain ⟨ad, cap, ha, hc⟩ := ints_at (RK_below H.out hr.out.2.2.2) (by omega)
   cases ha
   have ca := hc i x hxi
   have Hxi := Aside0.mk hxi
   clear hxi hc
   have hlt' : i < ys.length := by have := hr.out.1; omega
   obtain ⟨c1, c2⟩ := O_int_cell hr.out.2.2.1 hlt'
   go_wp2
   go_roundw
   case rel =>
    have h3 := O_int_set hr.out.2.2.1 hlt' x
    refine ⟨i + 1, by omega, by go_num, ys.set i x, ⟨by simp [hr.out.1], ?_, ?_, ?_⟩⟩
    ·rw [List.take_succ_eq_append_getElem (by simp; omega), List.take_set_of_le (Nat.le_refl _), hr.out.2.1, List.getElem_set_self]
     obtain ⟨h4, h5⟩ := List.getElem?_eq_some_iff.1 Hxi.out
     rw [List.take_succ_eq_append_getElem h4, h5]
    ·exact h3
    ·exact below_set hr.out.2.2.2 (Nat.le_refl _)
   case measure => simp [intOf]; omega
  ·obtain rfl : i = xs.length := by omega
   go_wp2
   go_ret
   obtain ⟨h2, h3, h4, h5⟩ := hr.out
   rw [List.take_of_length_le (by omega), List.take_of_length_le (by omega)] at h3
   subst h3
   exact ⟨_, _, rfl, h4, ⟨by simp, by simp⟩, h5⟩
theorem c_copyInts {w : World} {v : Value} {xs : List Int} (h : RK (Kd.int .i64) w v xs) (hl : xs.length ≤ 16777216) :
  Calls Tryz.prog 75 #[v] w fun e w' => ∃ u F, e = .returned u ∧ (Od.int .i64).O 3 w' F u xs ∧ Fresh w F ∧ Below w.heap.size w w' := by
 obtain ⟨A, ca, rfl, hr⟩ := id h
 have H := Aside0.mk h
 clear h hr
 have hu := Tryz.underlying28
 go_enter Tryz.func75, Tryz.ntmps75
 go_wp2_with (first | (at_builtin; refine append_ints .i64 rfl _ _ 28 3 8 rfl Tryz.underlying28 (by kernel_rfl) (by decide) _ _ [] xs _ (by rfl) (by rfl) (lit0 (Od.int .i64) 3 w) (RK_below H.out (below_alloc (Below.refl _ _) _)) (by simp; omega) ?_; intro v1 w1 F1 ho hnd hF hc; have HO := Aside0.mk ho; have HC := Aside0.mk hc; have HN := Aside0.mk hnd; have HF := Aside0.mk hF; clear ho hc hnd hF) | fail)
 go_ret
 refine ⟨_, _, rfl, HO.out, ⟨HN.out, fun k hk => ?_⟩, Chg.below (below_alloc (Below.refl _ _) _) HC.out (by simp)⟩
 rcases HF.out k hk with h1 | h1
 ·simp at h1; omega
 ·simp at h1; omega
set_option maxHeartbeats 1000000 in
set_option maxRecDepth 100000 in
theorem c_l2Without {w : World} {v : Value} {xs : List Int} {n : Int} (h : RK (Kd.int .i64) w v xs) (hl : xs.length ≤ 16777216) :
  Calls Tryz.prog 171 #[v, .int .i64 n] w fun e w' => ∃ u F, e = .returned u ∧ (Od.int .i64).O 3 w' F u (xs.filter (fun x => !(x == n))) ∧ Fresh w F ∧ Below w.heap.size w w' := by
 have lx := RK_len h
 obtain ⟨A, ca, rfl, hr⟩ := id h
 have H := Aside0.mk h
 clear h hr
 have hu := Tryz.underlying28
 go_enter Tryz.func171, Tryz.ntmps171
 go_wp2
 go_loopw [5, 6] (fun v5 v6 wr => ∃ i : Nat, i ≤ xs.length ∧ v6 = .int .i64 i ∧ ∃ F, Aside0 ((Od.int .i64).O 3 wr F v5 ((xs.take i).filter (fun x => !(x == n))) ∧ Fresh w F ∧ Below w.heap.size w wr)) (fun _ v6 _ => xs.length - (intOf v6).toNat)
 case atStart => exact ⟨0, by omega, rfl, _, ⟨lit0 (Od.int .i64) 3 w, ⟨by simp, by simp⟩, below_alloc (Below.refl _ _) _⟩⟩
 case round =>
  obtain ⟨i, hi, rfl, F, hr⟩ := hrel
  by_cases hlt : i < xs.length
  ·obtain ⟨x, hxi⟩ : ∃ x, xs[i]? = some x := ⟨_, List.getElem?_eq_getElem hlt⟩
   obtain ⟨ad, cap, ha, hc⟩ := ints_at (RK_below H.out hr.out.2.2) (by omega)
   cases ha
   have ca := hc i x hxi
   have Hxi := Aside0.mk hxi
   clear hxi hc
   have hstep : xs.take (i + 1) = xs.take i ++ [x] := by
    obtain ⟨h4, h5⟩ := List.getElem?_eq_some_iff.1 Hxi.out
    rw [List.take_succ_eq_append_getElem h4, h5]
   have Hs := Aside0.mk hstep
   clear hstep
   by_cases hxy : x = n
   ·subst hxy
    go_wp2
    go_roundw
    case rel => exact ⟨i + 1, by omega, by go_num, F, ⟨by rw [Hs.out, List.filter_append]; simpa using hr.out.1, hr.out.2.1, hr.out.2.2⟩⟩
    case measure => simp [intOf]; omega
   ·have hxy' : (x == n) = false := by simpa using hxy
    go_wp2_with (first | (at_builtin; refine append_O (Od.int .i64) rfl _ _ 28 3 (.int .i64 0) 8 rfl Tryz.underlying28 (by kernel_rfl) rfl (by decide) (by decide) _ _ F x [] [.int .i64 x] (by rfl) (by rfl) hr.out.1 hr.out.2.1.1 ⟨rfl, rfl⟩ List.nodup_nil (by simp) (by have := List.length_filter_le (fun x => !(x == n)) (xs.take i); simp only [List.length_take] at this; omega) ?_; intro v1 w1 F1 ho hnd hF hc; have HO := Aside0.mk ho; have HC := Aside0.mk hc; have HN := Aside0.mk hnd; have HF := Aside0.mk hF; clear ho hc hnd hF) | fail)
    go_roundw
    case rel =>
     refine ⟨i + 1, by omega, by go_num, F1, ⟨by rw [Hs.out, List.filter_append]; simpa [hxy'] using HO.out, ⟨HN.out, fun k hk => ?_⟩, Chg.below hr.out.2.2 HC.out hr.out.2.1.2⟩⟩
     rcases HF.out k hk with h1 | h1 | h1
     ·exact hr.out.2.1.2 k h1
     ·simp at h1
     ·have := hr.out.2.2.size; omega
    case measure => simp [intOf]; omega
  ·obtain rfl : i = xs.length := by omega
   go_wp2
   go_ret
   obtain ⟨h2, h3, h4⟩ := hr.out
   rw [List.take_of_length_le (by omega)] at h2
   exact ⟨_, _, rfl, h2, h3, h4⟩
end MMake
namespace MKinds
open Go.RowKit Go.Proofs.YtggmifnblcjdfaaGreatW.PrintWords Fp MInt
structure MemV where
 secs : List (List Int)
 cache : List (Int × List Int)
 failed : Bool
 bad : List Int
 deriving DecidableEq
def MemV.tup (m : MemV) : List (List Int) × (List (Int × List Int) × (Bool × List Int)) := (m.secs, m.cache, m.failed, m.bad)
@[reducible] def kInt : Kd Int := Kd.int .i64
@[reducible] def kSec : Kd (List Int) := Kd.slice 3 kInt
@[reducible] def kWr : Kd (Int × List Int) := Kd.pair kInt kSec
@[reducible] def oInt : Od Int := Od.int .i64
@[reducible] def oSec : Od (List Int) := Od.slice 3 oInt
@[reducible] def oSecs : Od (List (List Int)) := Od.slice 28 oSec
@[reducible] def oWr : Od (Int × List Int) := Od.pair oInt oSec
@[reducible] def oCache : Od (List (Int × List Int)) := Od.slice 126 oWr
def oMem : Od MemV := (Od.pair oSecs (Od.pair oCache (Od.pair Od.bool oSec))).iso MemV.tup
def kMem : Kd MemV := oMem.kd
theorem RK_slices {α : Type} {e : Nat} {k : Kd α} {w : World} {v : Value} {l : List (List α)} (h : RK (Kd.slice e k) w v l) (hn : 0 < l.length) :
  ∃ ad cap, v = .slice (some ad) l.length cap ∧ ∀ (i : Nat) (x : List α), l[i]? = some x → ∃ u, w.cell? (ad.add i) = some u ∧ RK k w u x := by
 obtain ⟨A, cap, rfl, hl, hC⟩ := h
 obtain ⟨ad, rfl, hc⟩ := hC.2.2 hn
 refine ⟨ad, cap, rfl, fun i x hi => ?_⟩
 obtain ⟨c, _, hK, hcell⟩ := hc i x hi
 obtain ⟨u, rfl, hu⟩ := RK_of_K (e := e) hK
 have := hcell 0 _ rfl
 exact ⟨u, by simpa [Kd.slice] using this, hu⟩
theorem add_off (a : Addr) (n j : Nat) (hj : 0 < j) : a.add (n + j) = ⟨(a.add n).block, (a.add n).off + j, none⟩ := by
 unfold Addr.add
 by_cases hn : n = 0
 ·subst hn; simp; omega
 ·rw [if_neg (by omega), if_neg hn]; simp; omega
theorem RK_wrs {w : World} {v : Value} {l : List (Int × List Int)} (h : RK kWr w v l) (hn : 0 < l.length) :
  ∃ ad cap, v = .slice (some ad) l.length cap ∧ ∀ (i : Nat) (x : Int × List Int), l[i]? = some x → ∃ u, w.cell? (ad.add (i * 2)) = some (.int .i64 x.1) ∧ w.cell? ⟨(ad.add (i * 2)).block, (ad.add (i * 2)).off + 1, none⟩ = some u ∧ RK kInt w u x.2 := by
 obtain ⟨A, cap, rfl, hl, hC⟩ := h
 obtain ⟨ad, rfl, hc⟩ := hC.2.2 hn
 refine ⟨ad, cap, rfl, fun i x hi => ?_⟩
 obtain ⟨c, _, hK, hcell⟩ := hc i x hi
 obtain ⟨c1, c2, rfl, h1, h2⟩ := hK
 obtain rfl : c1 = [.int .i64 x.1] := h1
 obtain ⟨u, rfl, hu⟩ := RK_of_K (e := 3) h2
 exact ⟨u, hcell 0 _ rfl, by rw [← add_off _ _ _ (by decide)]; exact hcell 1 _ rfl, hu⟩
def MemR (w : World) (v : Value) (m : MemV) : Prop := ∃ s c b, v = .agg #[s, c, .bool m.failed, b] ∧ RK kSec w s m.secs ∧ RK kWr w c m.cache ∧ RK kInt w b m.bad
def MemO (w : World) (F : List Nat) (v : Value) (m : MemV) : Prop :=
 ∃ s c b F1 F2 F3, v = .agg #[s, c, .bool m.failed, b] ∧ F = F1 ++ (F2 ++ F3) ∧ oSec.O 28 w F1 s m.secs ∧ oWr.O 126 w F2 c m.cache ∧ oInt.O 3 w F3 b m.bad
theorem MemR_below {w w1 : World} {v : Value} {m : MemV} (h : MemR w v m) (hb : Below w.heap.size w w1) : MemR w1 v m := by
 obtain ⟨s, c, b, rfl, h1, h2, h3⟩ := h
 exact ⟨s, c, b, rfl, RK_below h1 hb, RK_below h2 hb, RK_below h3 hb⟩
theorem MemO_R {w : World} {F : List Nat} {v : Value} {m : MemV} (h : MemO w F v m) : MemR w v m := by
 obtain ⟨s, c, b, F1, F2, F3, rfl, rfl, h1, h2, h3⟩ := h
 exact ⟨s, c, b, rfl, O_RK h1, O_RK h2, O_RK h3⟩
theorem MemO_lt {w : World} {F : List Nat} {v : Value} {m : MemV} (h : MemO w F v m) : ∀ k ∈ F, k < w.heap.size := by
 obtain ⟨s, c, b, F1, F2, F3, rfl, rfl, h1, h2, h3⟩ := h
 intro k hk
 rcases List.mem_append.1 hk with hk | hk
 ·exact O_lt h1 k hk
 ·rcases List.mem_append.1 hk with hk | hk
  ·exact O_lt h2 k hk
  ·exact O_lt h3 k hk
theorem MemO_move {w w1 : World} {F : List Nat} {v : Value} {m : MemV} (h : MemO w F v m) (hm : ∀ k ∈ F, w1.heap[k]? = w.heap[k]?) : MemO w1 F v m := by
 obtain ⟨s, c, b, F1, F2, F3, rfl, rfl, h1, h2, h3⟩ := h
 exact ⟨s, c, b, F1, F2, F3, rfl, rfl, O_move h1 (fun k hk => hm k (List.mem_append_left _ hk)), O_move h2 (fun k hk => hm k (List.mem_append_right _ (List.mem_append_left _ hk))), O_move h3 (fun k hk => hm k (List.mem_append_right _ (List.mem_append_right _ hk)))⟩
theorem oMem_M {w : World} {F : List Nat} {m : MemV} {cs : List Value} : oMem.M w F m cs ↔ MemO w F (.agg cs.toArray) m := by
 constructor
 ·rintro ⟨F1, F2, c1, c2, rfl, rfl, ⟨s, rfl, h1⟩, F3, F4, c3, c4, rfl, rfl, ⟨c, rfl, h2⟩, F5, F6, c5, c6, rfl, rfl, ⟨rfl, rfl⟩, b, rfl, h3⟩
  exact ⟨s, c, b, F1, F3, F6, rfl, by simp, h1, h2, h3⟩
 ·rintro ⟨s, c, b, F1, F2, F3, hv, rfl, h1, h2, h3⟩
  have : cs = [s, c, .bool m.failed, b] := congrArg Array.toList (Value.agg.inj hv)
  subst this
  exact ⟨F1, F2 ++ F3, [s], _, rfl, rfl, ⟨s, rfl, h1⟩, F2, F3, [c], _, rfl, rfl, ⟨c, rfl, h2⟩, [], F3, [.bool m.failed], [b], rfl, rfl, ⟨rfl, rfl⟩, b, rfl, h3⟩
theorem kMem_K {w : World} {m : MemV} {cs : List Value} : kMem.K w m cs ↔ MemR w (.agg cs.toArray) m := by
 constructor
 ·rintro ⟨c1, c2, rfl, h1, c3, c4, rfl, h2, c5, c6, rfl, h5, h6⟩
  obtain ⟨s, rfl, k1⟩ := RK_of_K (e := 0) h1
  obtain ⟨c, rfl, k2⟩ := RK_of_K (e := 0) h2
  obtain ⟨b, rfl, k3⟩ := RK_of_K (e := 0) h6
  obtain rfl : c5 = [.bool m.failed] := h5
  exact ⟨s, c, b, rfl, k1, k2, k3⟩
 ·rintro ⟨s, c, b, hv, h1, h2, h3⟩
  have : cs = [s, c, .bool m.failed, b] := congrArg Array.toList (Value.agg.inj hv)
  subst this
  exact ⟨[s], _, rfl, RK_K h1 0, [c], _, rfl, RK_K h2 0, [.bool m.failed], [b], rfl, rfl, RK_K h3 0⟩
end MKinds
namespace MRead
open Go.RowKit Go.Proofs.YtggmifnblcjdfaaGreatW.PrintWords Fp MInt MKinds
def Dr (w wr : World) : Prop := ∃ n, wr = w.drewN n
theorem lt_of_cell {w : World} {a : Addr} {v : Value} (h : w.cell? a = some v) : a.block < w.heap.size := World.block_lt_of_cell? w _ h
theorem Dr.refl (w : World) : Dr w w := ⟨0, rfl⟩
theorem Dr.cell {w wr : World} {a : Addr} {v : Value} (h : Dr w wr) (c : w.cell? a = some v) : wr.cell? a = some v := by obtain ⟨n, rfl⟩ := h; exact c
theorem Dr.rk {α : Type} {k : Kd α} {w wr : World} {v : Value} {xs : List α} (h : Dr w wr) (c : RK k w v xs) : RK k wr v xs := by
 obtain ⟨n, rfl⟩ := h; exact RK_below c (pw_below_drewN (Below.refl _ _) n)
theorem Dr.next {w wr : World} (h : Dr w wr) (m : Nat) : Dr w (wr.drewN m) := by obtain ⟨n, rfl⟩ := h; exact ⟨_, World.drewN_drewN _ _ _⟩
theorem Dr.trans {a b c : World} (h : Dr a b) (k : Dr b c) : Dr a c := by obtain ⟨n, rfl⟩ := k; exact h.next n
theorem box1 {w W : World} {o1 : Obj} (hb : Below (w.alloc o1).heap.size (w.alloc o1) W) : W.heap[w.heap.size]? = some o1 ∧ Below w.heap.size w W :=
 ⟨blk_below (blk_new w o1) hb, below_next (below_alloc (Below.refl _ _) _) hb⟩
theorem two {w : World} {g : Nat} {a b : Value} {t : TypeId} (h : w.heap[g]? = some (.cells #[a, b] t (0, 0))) : w.cell? ⟨g, 0, none⟩ = some a ∧ w.cell? ⟨g, 1, none⟩ = some b := ⟨(blk_cell h 0).trans rfl, (blk_cell h 1).trans rfl⟩
theorem four {w : World} {g : Nat} {a b c d : Value} {t : TypeId} (h : w.heap[g]? = some (.cells #[a, b, c, d] t (0, 0))) :
  w.cell? ⟨g, 0, none⟩ = some a ∧ w.cell? ⟨g, 1, none⟩ = some b ∧ w.cell? ⟨g, 2, none⟩ = some c ∧ w.cell? ⟨g, 3, none⟩ = some d := ⟨(blk_cell h 0).trans rfl, (blk_cell h 1).trans rfl, (blk_cell h 2).trans rfl, (blk_cell h 3).trans rfl⟩
end MRead
namespace MPut
open Go.RowKit Go.Proofs.YtggmifnblcjdfaaGreatW.PrintWords Fp MInt MKinds MRead MMake
def setRun (w : World) (g o : Nat) : List Value → World
 | [] => w
 | u :: us => setRun (w.setCell ⟨g, o, none⟩ u) g (o + 1) us
def setL (cs : List Value) (o : Nat) : List Value → List Value
 | [] => cs
 | u :: us => setL (cs.set o u) (o + 1) us
theorem setL_length (us : List Value) : ∀ (cs : List Value) (o : Nat), (setL cs o us).length = cs.length := by
 induction us with
 | nil => intro cs o; rfl
 | cons u us ih => intro cs o; rw [setL, ih, List.length_set]
theorem setL_get (us : List Value) : ∀ (cs : List Value) (o m : Nat), o + us.length ≤ cs.length → (setL cs o us)[m]? = if o ≤ m ∧ m < o + us.length then us[m - o]? else cs[m]? := by
 induction us with
 | nil => intro cs o m _; rw [setL, if_neg (by simp only [List.length_nil]; omega)]
 | cons u us ih =>
  intro cs o m h
  simp only [List.length_cons] at h
  rw [setL, ih _ _ _ (by rw [List.length_set]; omega)]
  by_cases h1 : o + 1 ≤ m ∧ m < o + 1 + us.length
  ·rw [if_pos h1, if_pos (by simp; omega)]
   rw [show m - o = (m - (o + 1)) + 1 by omega, List.getElem?_cons_succ]
  ·rw [if_neg h1]
   by_cases h2 : m = o
   ·subst h2
    rw [if_pos (by simp), Nat.sub_self, List.getElem?_set_self (by omega)]; rfl
   ·rw [if_neg (by simp; omega), List.getElem?_set_ne (by omega)]
theorem own_setRun {base : Nat} {e : TypeId} {size g n cap : Nat} (us : List Value) : ∀ (w : World) (cs : List Value) (o : Nat), w.ownsRow base e size (.slice (some ⟨g, 0, none⟩) n cap) n cs → (setRun w g o us).ownsRow base e size (.slice (some ⟨g, 0, none⟩) n cap) n (setL cs o us) := by
 induction us with
 | nil => intro w cs o h; exact h
 | cons u us ih => intro w cs o h; exact ih _ _ _ (h.stored o u).1
theorem block_setRun {g k : Nat} (hk : k ≠ g) (us : List Value) : ∀ (w : World) (o : Nat), (setRun w g o us).heap[k]? = w.heap[k]? := by
 induction us with
 | nil => intro w o; rfl
 | cons u us ih => intro w o; rw [setRun, ih]; exact Below.heap_setCell _ _ _ _ hk
theorem chg_setRun {S : List Nat} {a : World} {g : Nat} (hg : g ∈ S ∨ a.heap.size ≤ g) (us : List Value) : ∀ (w : World) (o : Nat), Chg S a w → Chg S a (setRun w g o us) := by
 induction us with
 | nil => intro w o h; exact h
 | cons u us ih => intro w o h; exact ih _ _ (h.set hg u)
theorem O_put {α : Type} {d : Od α} {e : TypeId} {w : World} {F : List Nat} {g n cap : Nat} {xs : List α} (h : d.O e w F (.slice (some ⟨g, 0, none⟩) n cap) xs) (hnd : F.Nodup) {i : Nat} (hi : i < xs.length)
  {y : α} {G : List Nat} {us : List Value} (hy : d.M w G y us) (hG : G.Nodup) (hd : ∀ k ∈ G, k ∉ F) :
  ∃ F', d.O e (setRun w g (i * d.sz) us) F' (.slice (some ⟨g, 0, none⟩) n cap) (xs.set i y) ∧ F'.Nodup ∧ ∀ k ∈ F', k ∈ F ∨ k ∈ G := by
 obtain ⟨cs, Fs, hr, hl, rfl, hM⟩ := h
 have hn : n = xs.length := by
  rcases hr.2 with ⟨h', _⟩ | ⟨_, _, _, h', _⟩ <;> simp at h'
  exact h'.2.1
 subst hn
 have hlu : us.length = d.sz := d.M_len hy
 obtain ⟨A, B, hAB, hA⟩ := split_at_ (List.getElem?_eq_getElem (show i < Fs.length by omega))
 generalize Fs[i]'(by omega) = G0 at hAB
 subst hAB
 have hcs : cs.length = xs.length * d.sz := hr.1
 have hfit : i * d.sz + us.length ≤ cs.length := by
  have : (i + 1) * d.sz ≤ xs.length * d.sz := Nat.mul_le_mul_right _ hi
  rw [Nat.succ_mul] at this; omega
 simp only [Value.ownBlock, Option.toList_some, List.flatten_append, List.flatten_cons, List.singleton_append, List.nodup_cons, List.nodup_append] at hnd
 obtain ⟨hg0, nA, ⟨nG0, nB, dGB⟩, dA⟩ := hnd
 have hgG : g ∉ G := fun hk => hd g hk (by simp [Value.ownBlock])
 have dGA : ∀ k ∈ G, k ∉ A.flatten := fun k hk hk' => hd k hk (by simp only [List.flatten_append, List.mem_append]; exact .inr (.inl hk'))
 have dGB' : ∀ k ∈ G, k ∉ B.flatten := fun k hk hk' => hd k hk (by simp only [List.flatten_append, List.flatten_cons, List.mem_append]; exact .inr (.inr (.inr hk')))
 refine ⟨_, ⟨setL cs (i * d.sz) us, A ++ G :: B, ?_, by simpa using hl, rfl, fun j z H hz hH => ?_⟩, ?_, fun k hk => ?_⟩
 ·rw [List.length_set]
  exact own_setRun us w cs _ hr
 ·have hjl : j < xs.length := by have := (List.getElem?_eq_some_iff.1 hz).1; rwa [List.length_set] at this
  by_cases hj : j = i
  ·subst hj
   rw [List.getElem?_set_self hi] at hz
   have hH' : (A ++ G :: B)[j]? = some G := by rw [List.getElem?_append_right (by omega)]; simp [hA]
   rw [hH'] at hH
   cases hz; cases hH
   have e1 : seg d.sz j (setL cs (j * d.sz) us) = us := by
    apply List.ext_getElem?
    intro m
    rcases Nat.lt_or_ge m d.sz with hm | hm
    ·rw [seg_get (n := xs.length) (by rw [setL_length]; exact hcs) hi hm, setL_get _ _ _ _ hfit, if_pos (by omega), Nat.add_sub_cancel_left]
    ·rw [List.getElem?_eq_none (by rw [seg_length (n := xs.length) (by rw [setL_length]; exact hcs) hi]; omega), List.getElem?_eq_none (by omega)]
   rw [e1]
   exact d.M_move hy (fun k hk => block_setRun (fun e => hgG (by rw [← e]; exact hk)) us w _)
  ·rw [List.getElem?_set_ne (Ne.symm hj)] at hz
   rw [get_mid (x := G0) (by omega)] at hH
   have e1 : seg d.sz j (setL cs (i * d.sz) us) = seg d.sz j cs := by
    apply List.ext_getElem?
    intro m
    rcases Nat.lt_or_ge m d.sz with hm | hm
    ·rw [seg_get (n := xs.length) (by rw [setL_length]; exact hcs) hjl hm, seg_get (n := xs.length) hcs hjl hm, setL_get _ _ _ _ hfit, if_neg]
     rintro ⟨q1, q2⟩
     rcases Nat.lt_or_gt_of_ne hj with h | h
     ·have : (j + 1) * d.sz ≤ i * d.sz := Nat.mul_le_mul_right _ h
      rw [Nat.succ_mul] at this; omega
     ·have : (i + 1) * d.sz ≤ j * d.sz := Nat.mul_le_mul_right _ h
      rw [Nat.succ_mul] at this; omega
    ·rw [List.getElem?_eq_none (by rw [seg_length (n := xs.length) (by rw [setL_length]; exact hcs) hjl]; omega), List.getElem?_eq_none (by rw [seg_length (n := xs.length) hcs hjl]; omega)]
   rw [e1]
   refine d.M_move (hM j z H hz hH) (fun k hk => block_setRun (fun e => ?_) us w _)
   subst e
   apply hg0
   rcases Nat.lt_or_ge j A.length with hlt | hge
   ·rw [List.getElem?_append_left hlt] at hH
    exact List.mem_append_left _ (List.mem_flatten.2 ⟨H, List.mem_of_getElem? hH, hk⟩)
   ·rw [List.getElem?_append_right hge] at hH
    exact List.mem_append_right _ (by rw [← List.flatten_cons]; exact List.mem_flatten.2 ⟨H, List.mem_of_getElem? hH, hk⟩)
 ·simp only [Value.ownBlock, Option.toList_some, List.flatten_append, List.flatten_cons, List.singleton_append, List.nodup_cons, List.nodup_append]
  refine ⟨?_, nA, ⟨hG, nB, fun a ha b hb e => dGB' a ha (e ▸ hb)⟩, fun a ha b hb e => ?_⟩
  ·simp only [List.mem_append, not_or] at hg0 ⊢
   exact ⟨hg0.1, hgG, hg0.2.2⟩
  ·subst e
   rcases List.mem_append.1 hb with hb | hb
   ·exact dGA a hb ha
   ·exact dA a ha a (List.mem_append_right _ hb) rfl
 ·simp only [List.flatten_append, List.flatten_cons, List.mem_append] at hk ⊢
  rcases hk with h | h | h | h
  ·exact .inl (.inl h)
  ·exact .inl (.inr (.inl h))
  ·exact .inr h
  ·exact .inl (.inr (.inr (.inr h)))
theorem O_cells {α : Type} {d : Od α} {e : TypeId} {w : World} {F : List Nat} {g n cap : Nat} {xs : List α} (h : d.O e w F (.slice (some ⟨g, 0, none⟩) n cap) xs) {i : Nat} (hi : i < xs.length) {t : Nat} (ht : t < d.sz) :
  ∃ u, w.cell? ⟨g, i * d.sz + t, none⟩ = some u ∧ w.frozen? ⟨g, i * d.sz + t, none⟩ = false := by
 obtain ⟨c, G, hM, _, hc, hf, _⟩ := O_elem h (List.getElem?_eq_getElem hi)
 have hl := d.M_len hM
 exact ⟨_, hc t _ (List.getElem?_eq_getElem (by omega)), hf t⟩
def Small (m : MemV) : Prop := m.secs.length ≤ 16777216 ∧ (∀ x ∈ m.secs, x.length ≤ 16777216) ∧ m.cache.length ≤ 16777216 ∧ (∀ x ∈ m.cache, x.2.length ≤ 16777216) ∧ m.bad.length ≤ 16777216
end MPut
namespace Sep
open Go.RowKit Go.Proofs.YtggmifnblcjdfaaGreatW.PrintWords Fp MInt MKinds MRead MMake MPut
abbrev Res := List Nat × (World → Prop)
structure Lies (w : World) (r : Res) : Prop where
 lt : ∀ k ∈ r.1, k < w.heap.size
 st : ∀ w' : World, (∀ k ∈ r.1, w'.heap[k]? = w.heap[k]?) → r.2 w'
theorem Lies.now {w : World} {r : Res} (h : Lies w r) : r.2 w := h.st w (fun _ _ => rfl)
theorem Lies.move {w w' : World} {r : Res} (h : Lies w r) (hm : ∀ k ∈ r.1, w'.heap[k]? = w.heap[k]?) : Lies w' r :=
 ⟨fun k hk => by
  have h1 := h.lt k hk
  have h2 := hm k hk
  rw [Array.getElem?_eq_getElem h1] at h2
  exact (Array.getElem?_eq_some_iff.1 h2).1, fun w'' h'' => h.st w'' (fun k hk => (h'' k hk).trans (hm k hk))⟩
theorem Lies.drewN {w : World} {r : Res} (h : Lies w r) (n : Nat) : Lies (w.drewN n) r := h.move (fun _ _ => rfl)
def bx (g : Nat) (t : TypeId) (cs : Array Value) : Res := ([g], fun w => w.heap[g]? = some (.cells cs t (0, 0)))
theorem lies_bx {w : World} {g : Nat} {t : TypeId} {cs : Array Value} (h : w.heap[g]? = some (.cells cs t (0, 0))) : Lies w (bx g t cs) :=
 ⟨fun k hk => by obtain rfl : k = g := (by simpa [bx] using hk); exact blk_lt h, fun w' hm => (hm g (by simp [bx])).trans h⟩
def rw_ {α : Type} (d : Od α) (e : TypeId) (F : List Nat) (v : Value) (xs : List α) : Res := (F, fun w => d.O e w F v xs)
theorem lies_row {α : Type} {d : Od α} {e : TypeId} {w : World} {F : List Nat} {v : Value} {xs : List α} (h : d.O e w F v xs) : Lies w (rw_ d e F v xs) := ⟨O_lt h, fun w' hm => O_move h hm⟩
def fps : List Res → List Nat
 | [] => []
 | r :: L => r.1 ++ fps L
theorem mem_fps {L : List Res} {k : Nat} : k ∈ fps L ↔ ∃ r ∈ L, k ∈ r.1 := by
 induction L with
 | nil => simp [fps]
 | cons r L ih => simp [fps, ih]
theorem fps_append (A B : List Res) : fps (A ++ B) = fps A ++ fps B := by
 induction A with
 | nil => rfl
 | cons r A ih => simp [fps, ih]
structure Sep (w0 : World) (S : List Nat) (w : World) (L : List Res) : Prop where
 chg : Chg S w0 w
 nd : (fps L).Nodup
 sub : ∀ k ∈ fps L, k ∈ S ∨ w0.heap.size ≤ k
 all : ∀ r ∈ L, Lies w r
section
variable {w0 w w' : World} {S : List Nat} {L : List Res}
theorem Sep.start (w : World) (S : List Nat) : Sep w S w [] := ⟨Chg.refl _ _, by simp [fps], by simp [fps], by simp⟩
theorem Sep.get (h : Sep w0 S w L) {r : Res} (i : Nat) (hi : L[i]? = some r) : r.2 w := (h.all r (List.mem_of_getElem? hi)).now
theorem Sep.lies (h : Sep w0 S w L) {r : Res} (i : Nat) (hi : L[i]? = some r) : Lies w r := h.all r (List.mem_of_getElem? hi)
theorem Sep.fnd (h : Sep w0 S w L) {r : Res} (i : Nat) (hi : L[i]? = some r) : r.1.Nodup := by
 obtain ⟨A, B, rfl, _⟩ := split_at_ hi
 have := h.nd
 rw [fps_append, fps, List.nodup_append, List.nodup_append] at this
 exact this.2.1.1
theorem Sep.fsub (h : Sep w0 S w L) {r : Res} (i : Nat) (hi : L[i]? = some r) : ∀ k ∈ r.1, k ∈ S ∨ w0.heap.size ≤ k := fun k hk => h.sub k (mem_fps.2 ⟨r, List.mem_of_getElem? hi, hk⟩)
theorem Sep.repl_ {A B M : List Res} {r : Res} (h : Sep w0 S w (A ++ r :: B)) (hc : Chg r.1 w w') (hn : (fps M).Nodup) (hs : ∀ k ∈ fps M, k ∈ r.1 ∨ w.heap.size ≤ k) (hM : ∀ m ∈ M, Lies w' m) : Sep w0 S w' (A ++ (M ++ B)) := by
 have hnd := h.nd
 have hall := h.all
 have hsub := h.sub
 rw [fps_append, fps, List.nodup_append, List.nodup_append] at hnd
 obtain ⟨nA, ⟨nr, nB, drB⟩, dA⟩ := hnd
 have hlt : ∀ q ∈ A ++ r :: B, ∀ k ∈ q.1, k < w.heap.size := fun q hq k hk => (hall q hq).lt k hk
 have ltA : ∀ k ∈ fps A, k < w.heap.size := fun k hk => by
  obtain ⟨q, hq, hk⟩ := mem_fps.1 hk
  exact hlt q (List.mem_append_left _ hq) k hk
 have ltB : ∀ k ∈ fps B, k < w.heap.size := fun k hk => by
  obtain ⟨q, hq, hk⟩ := mem_fps.1 hk
  exact hlt q (List.mem_append_right _ (List.mem_cons_of_mem _ hq)) k hk
 have hr1 : ∀ k ∈ r.1, k ∈ S ∨ w0.heap.size ≤ k := fun k hk => hsub k (by rw [fps_append, fps]; simp [hk])
 have dMA : ∀ a ∈ fps A, ∀ b ∈ fps M, a ≠ b := fun a ha b hb e => by
  subst e
  rcases hs a hb with h1 | h1
  ·exact dA a ha a (by simp [h1]) rfl
  ·have := ltA a ha; omega
 have dMB : ∀ a ∈ fps M, ∀ b ∈ fps B, a ≠ b := fun a ha b hb e => by
  subst e
  rcases hs a ha with h1 | h1
  ·exact drB a h1 a hb rfl
  ·have := ltB a hb; omega
 refine ⟨⟨hc.os.trans h.chg.os, hc.tape.trans h.chg.tape, hc.output.trans h.chg.output, Nat.le_trans h.chg.size hc.size, fun k hk hn' => ?_⟩, ?_, ?_, ?_⟩
 ·refine (hc.block k (Nat.lt_of_lt_of_le hk h.chg.size) (fun hr => ?_)).trans (h.chg.block k hk hn')
  rcases hr1 k hr with h1 | h1
  ·exact hn' h1
  ·omega
 ·rw [fps_append, fps_append, List.nodup_append, List.nodup_append]
  refine ⟨nA, ⟨hn, nB, dMB⟩, fun a ha b hb => ?_⟩
  rcases List.mem_append.1 hb with hb | hb
  ·exact dMA a ha b hb
  ·exact dA a ha b (List.mem_append_right _ hb)
 ·intro k hk
  rw [fps_append, fps_append] at hk
  rcases List.mem_append.1 hk with hk | hk
  ·exact hsub k (by rw [fps_append]; exact List.mem_append_left _ hk)
  ·rcases List.mem_append.1 hk with hk | hk
   ·rcases hs k hk with h1 | h1
    ·exact hr1 k h1
    ·have := h.chg.size; right; omega
   ·exact hsub k (by rw [fps_append, fps]; simp [hk])
 ·intro q hq
  rcases List.mem_append.1 hq with hq | hq
  ·refine (hall q (List.mem_append_left _ hq)).move (fun k hk => hc.block k (hlt q (List.mem_append_left _ hq) k hk) (fun hr => ?_))
   exact dA k (mem_fps.2 ⟨q, hq, hk⟩) k (List.mem_append_left _ hr) rfl
  ·rcases List.mem_append.1 hq with hq | hq
   ·exact hM q hq
   ·refine (hall q (by simp [hq])).move (fun k hk => hc.block k (hlt q (by simp [hq]) k hk) (fun hr => ?_))
    exact drB k hr k (mem_fps.2 ⟨q, hq, hk⟩) rfl
theorem cut_at {L : List Res} {i : Nat} {r : Res} (hi : L[i]? = some r) : L = L.take i ++ r :: L.drop (i + 1) := by
 obtain ⟨hl, hx⟩ := List.getElem?_eq_some_iff.1 hi
 rw [← hx, ← List.drop_eq_getElem_cons hl, List.take_append_drop]
theorem Sep.repl (h : Sep w0 S w L) {r : Res} (i : Nat) (hi : L[i]? = some r) {M : List Res} (hc : Chg r.1 w w') (hn : (fps M).Nodup) (hs : ∀ k ∈ fps M, k ∈ r.1 ∨ w.heap.size ≤ k) (hM : ∀ m ∈ M, Lies w' m) : Sep w0 S w' (L.take i ++ (M ++ L.drop (i + 1))) := by
 have h1 := h
 rw [cut_at hi] at h1
 exact h1.repl_ hc hn hs hM
theorem set_cut {L : List Res} {i : Nat} {r r' : Res} (hi : L[i]? = some r) : L.set i r' = L.take i ++ ([r'] ++ L.drop (i + 1)) := by
 obtain ⟨hl, hx⟩ := List.getElem?_eq_some_iff.1 hi
 rw [List.set_eq_take_append_cons_drop, if_pos hl]; rfl
theorem erase_cut (L : List Res) (i : Nat) : L.eraseIdx i = L.take i ++ ([] ++ L.drop (i + 1)) := by rw [List.eraseIdx_eq_take_drop_succ]; rfl
structure Upd (w w' : World) (F : List Nat) (r : Res) : Prop where
 chg : Chg F w w'
 nd : r.1.Nodup
 sub : ∀ k ∈ r.1, k ∈ F ∨ w.heap.size ≤ k
 lies : Lies w' r
structure New (w w' : World) (r : Res) : Prop where
 below : Below w.heap.size w w'
 fresh : Fresh w r.1
 lies : Lies w' r
theorem Sep.upd (h : Sep w0 S w L) {r r' : Res} (i : Nat) (hi : L[i]? = some r) (hu : Upd w w' r.1 r') : Sep w0 S w' (L.set i r') := by
 rw [set_cut hi]
 exact h.repl i hi hu.chg (by simpa [fps] using hu.nd) (by simpa [fps] using hu.sub) (by simpa using hu.lies)
theorem Sep.drop (h : Sep w0 S w L) {r : Res} (i : Nat) (hi : L[i]? = some r) : Sep w0 S w (L.eraseIdx i) := by
 rw [erase_cut]
 exact h.repl i hi (Chg.refl _ _) (by simp [fps]) (by simp [fps]) (by simp)
theorem Sep.chg0 (h : Sep w0 S w L) (hc : Chg [] w w') : Sep w0 S w' L := by
 refine ⟨h.chg.trans (hc.mono (by simp)), h.nd, h.sub, fun r hr => (h.all r hr).move (fun k hk => hc.block k ((h.all r hr).lt k hk) (by simp))⟩
theorem Sep.below (h : Sep w0 S w L) (hb : Below w.heap.size w w') : Sep w0 S w' L := h.chg0 (Chg.of_below hb)
theorem Sep.drewN (h : Sep w0 S w L) (n : Nat) : Sep w0 S (w.drewN n) L := h.chg0 ((Chg.refl _ _).drewN n)
theorem Sep.drew (h : Sep w0 S w L) : Sep w0 S w.drew L := h.chg0 (Chg.refl _ _).drew
theorem Sep.dr (h : Sep w0 S w L) (hd : ∃ n, w' = w.drewN n) : Sep w0 S w' L := by obtain ⟨n, rfl⟩ := hd; exact h.drewN n
theorem Sep.new (h : Sep w0 S w L) {r : Res} (hn : New w w' r) : Sep w0 S w' (r :: L) := by
 have h1 := h.below hn.below
 refine ⟨h1.chg, ?_, fun k hk => ?_, fun q hq => ?_⟩
 ·rw [fps, List.nodup_append]
  refine ⟨hn.fresh.1, h.nd, fun a ha b hb e => ?_⟩
  subst e
  obtain ⟨q, hq, hk⟩ := mem_fps.1 hb
  have := (h.all q hq).lt a hk
  have := hn.fresh.2 a ha
  omega
 ·rw [fps] at hk
  rcases List.mem_append.1 hk with hk | hk
  ·have := hn.fresh.2 k hk; have := h.chg.size; right; omega
  ·exact h.sub k hk
 ·rcases List.mem_cons.1 hq with rfl | hq
  ·exact hn.lies
  ·exact h1.all q hq
theorem Sep.alloc (h : Sep w0 S w L) {g : Nat} (hg : w.heap.size = g) (cs : Array Value) (t : TypeId) : Sep w0 S (w.alloc (.cells cs t (0, 0))) (bx g t cs :: L) := by
 subst hg
 exact h.new ⟨below_alloc (Below.refl _ _) _, ⟨by simp [bx], by simp [bx]⟩, lies_bx (blk_new w _)⟩
theorem Sep.setb (h : Sep w0 S w L) (i : Nat) {g : Nat} {t : TypeId} {cs cs' : Array Value} (hi : L[i]? = some (bx g t cs)) (j : Nat) (u : Value) (e : cs.setIfInBounds j u = cs') : Sep w0 S (w.setCell ⟨g, j, none⟩ u) (L.set i (bx g t cs')) := by
 subst e
 refine h.upd i hi ⟨(Chg.refl _ _).set (.inl (by simp [bx])) u, by simp [bx], fun k hk => .inl hk, lies_bx (blk_set (h.get i hi) j u)⟩
theorem Sep.part (h : Sep w0 S w L) {r : Res} (i : Nat) (hi : L[i]? = some r) {M : List Res} (hf : fps M = r.1) (hM : ∀ m ∈ M, Lies w m) : Sep w0 S w (L.take i ++ (M ++ L.drop (i + 1))) :=
 h.repl i hi (Chg.refl _ _) (by rw [hf]; exact h.fnd i hi) (fun k hk => .inl (by rw [← hf]; exact hk)) hM
theorem Sep.perm {L' : List Res} (h : Sep w0 S w L) (p : L'.Perm L) : Sep w0 S w L' := by
 have hp : (fps L').Perm (fps L) := by
  have : ∀ A : List Res, fps A = (A.map (·.1)).flatten := fun A => by
   induction A with
   | nil => rfl
   | cons r A ih => simp [fps, ih]
  rw [this, this]
  exact (p.map _).flatten
 exact ⟨h.chg, hp.nodup_iff.2 h.nd, fun k hk => h.sub k (hp.mem_iff.1 hk), fun r hr => h.all r (p.mem_iff.1 hr)⟩
theorem Sep.front (h : Sep w0 S w L) {r : Res} (i : Nat) (hi : L[i]? = some r) : Sep w0 S w (r :: L.eraseIdx i) := by
 refine h.perm ?_
 rw [erase_cut]
 conv => rhs; rw [cut_at hi]
 simpa using List.perm_middle.symm
theorem Sep.join {r1 r2 : Res} (h : Sep w0 S w (r1 :: r2 :: L)) {P : World → Prop} (hl : Lies w (r1.1 ++ r2.1, P)) : Sep w0 S w ((r1.1 ++ r2.1, P) :: L) := by
 refine ⟨h.chg, ?_, fun k hk => ?_, fun q hq => ?_⟩
 ·have := h.nd; simpa [fps] using this
 ·exact h.sub k (by simpa [fps] using hk)
 ·rcases List.mem_cons.1 hq with rfl | hq
  ·exact hl
  ·exact h.all q (by simp [hq])
theorem Sep.toNew (h : Sep w0 [] w L) {r : Res} (i : Nat) (hi : L[i]? = some r) : New w0 w r :=
 ⟨⟨h.chg.os, h.chg.tape, h.chg.output, h.chg.size, fun k hk => h.chg.block k hk (by simp)⟩, ⟨h.fnd i hi, fun k hk => (h.fsub i hi k hk).resolve_left (by simp)⟩, h.lies i hi⟩
theorem Sep.toBelow (h : Sep w0 [] w L) : Below w0.heap.size w0 w := ⟨h.chg.os, h.chg.tape, h.chg.output, h.chg.size, fun k hk => h.chg.block k hk (by simp)⟩
theorem Sep.old (h : Sep w0 [] w L) {a : Addr} {v : Value} (c : w0.cell? a = some v) : w.cell? a = some v := (h.toBelow.cell (World.block_lt_of_cell? w0 _ c)).trans c
theorem Sep.rk (h : Sep w0 [] w L) {α : Type} {k : Kd α} {v : Value} {xs : List α} (c : RK k w0 v xs) : RK k w v xs := RK_below c h.toBelow
theorem fps_eq (A : List Res) : fps A = (A.map (·.1)).flatten := by
 induction A with
 | nil => rfl
 | cons r A ih => simp [fps, ih]
theorem Sep.apart (h : Sep w0 S w L) {r q : Res} (i j : Nat) (hi : L[i]? = some r) (hj : L[j]? = some q) (hij : i ≠ j) : ∀ k ∈ r.1, k ∉ q.1 := by
 have hnd := h.nd
 rw [fps_eq, List.Nodup, List.pairwise_flatten] at hnd
 have hp := List.pairwise_iff_getElem.1 hnd.2
 obtain ⟨li, ei⟩ := List.getElem?_eq_some_iff.1 hi
 obtain ⟨lj, ej⟩ := List.getElem?_eq_some_iff.1 hj
 intro k hk hk'
 rcases Nat.lt_or_gt_of_ne hij with hlt | hlt
 ·have := hp i j (by simpa using li) (by simpa using lj) hlt
  simp only [List.getElem_map, ei, ej] at this
  exact this k hk k hk' rfl
 ·have := hp j i (by simpa using lj) (by simpa using li) hlt
  simp only [List.getElem_map, ei, ej] at this
  exact this k hk' k hk rfl
theorem Sep.neq (h : Sep w0 S w L) {g g' : Nat} {t t' : TypeId} {cs cs' : Array Value} (i j : Nat) (hi : L[i]? = some (bx g t cs)) (hj : L[j]? = some (bx g' t' cs')) (hij : i ≠ j) : g ≠ g' := by
 have := h.apart i j hi hj hij g (by simp [bx])
 simpa [bx] using this
def pick (L : List Res) (i : Nat) : Res := L.getD i ([], fun _ => True)
theorem Sep.sel (h : Sep w0 S w L) (is : List Nat) (hn : is.Nodup) (hm : ∀ i ∈ is, i < L.length) : Sep w0 S w (is.map (pick L)) := by
 have hg : ∀ i ∈ is, L[i]? = some (pick L i) := fun i hi => by rw [List.getElem?_eq_getElem (hm i hi)]; simp [pick, List.getD, hm i hi]
 refine ⟨h.chg, ?_, fun k hk => ?_, fun r hr => ?_⟩
 ·rw [fps_eq, List.Nodup, List.pairwise_flatten]
  refine ⟨fun F hF => ?_, ?_⟩
  ·simp only [List.map_map, List.mem_map, Function.comp] at hF
   obtain ⟨i, hi, rfl⟩ := hF
   exact h.fnd i (hg i hi)
  ·rw [List.map_map, List.pairwise_map]
   refine List.Pairwise.imp_of_mem ?_ hn
   intro i j hi hj hij a ha b hb hab
   subst hab
   exact h.apart i j (hg i hi) (hg j hj) hij a ha hb
 ·obtain ⟨r, hr, hk⟩ := mem_fps.1 hk
  obtain ⟨i, hi, rfl⟩ := List.mem_map.1 hr
  exact h.fsub i (hg i hi) k hk
 ·obtain ⟨i, hi, rfl⟩ := List.mem_map.1 hr
  exact h.lies i (hg i hi)
theorem Sep.two {r1 r2 r : Res} (h : Sep w0 S w (r1 :: r2 :: L)) (hc : Chg (r1.1 ++ r2.1) w w') (hn : r.1.Nodup) (hs : ∀ k ∈ r.1, k ∈ r1.1 ++ r2.1 ∨ w.heap.size ≤ k) (hl : Lies w' r) : Sep w0 S w' (r :: L) := by
 have l1 : Lies w r1 := h.lies 0 rfl
 have l2 : Lies w r2 := h.lies 1 rfl
 have h1 : Sep w0 S w ((r1.1 ++ r2.1, fun _ => True) :: L) := h.join (P := fun _ => True) ⟨fun k hk => (List.mem_append.1 hk).elim (l1.lt k) (l2.lt k), fun _ _ => trivial⟩
 exact h1.upd 0 rfl ⟨hc, hn, hs, hl⟩
theorem Sep.nil {α : Type} (h : Sep w0 S w L) (d : Od α) (e : TypeId) : Sep w0 S w (rw_ d e [] (.slice none 0 0) [] :: L) := h.new ⟨Below.refl _ _, Fresh.nil _, lies_row (O_nil d e w)⟩
theorem Sep.lit {α : Type} (h : Sep w0 S w L) {g : Nat} (hg : w.heap.size = g) (d : Od α) (e : TypeId) : Sep w0 S (w.alloc (.cells #[] e)) (rw_ d e [g] (.slice (some ⟨g, 0, none⟩) 0 0) [] :: L) := by
 subst hg
 exact h.new ⟨below_alloc (Below.refl _ _) _, ⟨by simp [rw_], by simp [rw_]⟩, lies_row (lit0 d e w)⟩
theorem Sep.glue {M : List Res} {r : Res} (h : Sep w0 S w (M ++ L)) (hf : fps M = r.1) (hl : Lies w r) : Sep w0 S w (r :: L) := by
 refine ⟨h.chg, ?_, fun k hk => ?_, fun q hq => ?_⟩
 ·have := h.nd; rw [fps_append, hf] at this; exact this
 ·exact h.sub k (by rw [fps_append, hf]; exact hk)
 ·rcases List.mem_cons.1 hq with rfl | hq
  ·exact hl
  ·exact h.all q (List.mem_append_right _ hq)
end
def me (F : List Nat) (v : Value) (m : MemV) : Res := (F, fun w => MemO w F v m)
theorem lies_mem {w : World} {F : List Nat} {v : Value} {m : MemV} (h : MemO w F v m) : Lies w (me F v m) := ⟨MemO_lt h, fun w' hm => MemO_move h hm⟩
theorem new_row {α : Type} {d : Od α} {e : TypeId} {w w' : World} {F : List Nat} {v : Value} {xs : List α} (h : d.O e w' F v xs) (hF : Fresh w F) (hb : Below w.heap.size w w') : New w w' (rw_ d e F v xs) := ⟨hb, hF, lies_row h⟩
section
variable {w0 w w' : World} {S : List Nat} {L : List Res}
theorem Sep.toMem {F1 F2 F3 : List Nat} {s c b : Value} {m : MemV} (h : Sep w0 S w (rw_ oSec 28 F1 s m.secs :: rw_ oWr 126 F2 c m.cache :: rw_ oInt 3 F3 b m.bad :: L)) : Sep w0 S w (me (F1 ++ (F2 ++ F3)) (.agg #[s, c, .bool m.failed, b]) m :: L) :=
 Sep.glue (M := [rw_ oSec 28 F1 s m.secs, rw_ oWr 126 F2 c m.cache, rw_ oInt 3 F3 b m.bad]) h (by simp [fps, rw_, me]) (lies_mem ⟨s, c, b, F1, F2, F3, rfl, rfl, h.get 0 rfl, h.get 1 rfl, h.get 2 rfl⟩)
theorem Sep.ofMem {F : List Nat} {u : Value} {m : MemV} (h : Sep w0 S w (me F u m :: L)) : ∃ A1 c1 A2 c2 A3 c3 F1 F2 F3, u = .agg #[.slice A1 m.secs.length c1, .slice A2 m.cache.length c2, .bool m.failed, .slice A3 m.bad.length c3] ∧
  Sep w0 S w (rw_ oSec 28 F1 (.slice A1 m.secs.length c1) m.secs :: rw_ oWr 126 F2 (.slice A2 m.cache.length c2) m.cache :: rw_ oInt 3 F3 (.slice A3 m.bad.length c3) m.bad :: L) := by
 obtain ⟨s, c, b, F1, F2, F3, rfl, rfl, h1, h2, h3⟩ := (show MemO w F u m from h.get 0 rfl)
 obtain ⟨A1, c1, rfl, _⟩ := O_reads h1
 obtain ⟨A2, c2, rfl, _⟩ := O_reads h2
 obtain ⟨A3, c3, rfl, _⟩ := O_reads h3
 refine ⟨A1, c1, A2, c2, A3, c3, F1, F2, F3, rfl, h.part 0 rfl (M := [rw_ oSec 28 F1 _ m.secs, rw_ oWr 126 F2 _ m.cache, rw_ oInt 3 F3 _ m.bad]) (by simp [fps, rw_, me]) ?_⟩
 intro r hr
 simp only [List.mem_cons, List.not_mem_nil, or_false] at hr
 rcases hr with rfl | rfl | rfl
 ·exact lies_row h1
 ·exact lies_row h2
 ·exact lies_row h3
end
end Sep
theorem qqN : (∀ (α β : Type) (f : α → β) (a : α) (l : List α), List.map f (a :: l) = f a :: List.map f l) ∧ (∀ (α β : Type) (f : α → β), List.map f [] = []) ∧ (∀ (L : List Sep.Res) (i : Nat), Sep.pick L i = L.getD i ([], fun _ => True)) ∧ (∀ (α : Type) (a : α) (l : List α) (n : Nat) (d : α), (a :: l).getD (n + 1) d = l.getD n d) ∧ (∀ (α : Type) (a : α) (l : List α) (d : α), (a :: l).getD 0 d = a) ∧ (∀ (α : Type) (a b : α) (l : List α), (a :: l).set 0 b = b :: l) ∧ (∀ (α : Type) (a b : α) (l : List α) (n : Nat), (a :: l).set (n + 1) b = a :: l.set n b) ∧ (∀ (α : Type) (a : α) (l : List α), (a :: l).eraseIdx 0 = l) ∧ (∀ (α : Type) (a : α) (l : List α) (n : Nat), (a :: l).eraseIdx (n + 1) = a :: l.eraseIdx n) ∧ (∀ (α : Type) (l : List α) (i : Nat) (a : α), l.toArray.setIfInBounds i a = (l.set i a).toArray) :=
 ⟨fun _ _ _ _ _ => rfl, fun _ _ _ => rfl, fun _ _ => rfl, fun _ _ _ _ _ => rfl, fun _ _ _ _ => rfl, fun _ _ _ _ => rfl, fun _ _ _ _ _ => rfl, fun _ _ _ => rfl, fun _ _ _ _ => rfl, fun _ _ _ _ => by simp⟩
theorem qqT : (∀ (α : Type) (a : α) (l : List α) (n : Nat), (a :: l).drop (n + 1) = l.drop n) ∧ (∀ (α : Type) (l : List α), l.drop 0 = l) ∧ (∀ (α : Type) (l m : List α), List.append l m = l ++ m) ∧ (∀ (α : Type) (a : α) (l m : List α), a :: l ++ m = a :: (l ++ m)) ∧ (∀ (α : Type) (l : List α), [] ++ l = l) :=
 ⟨fun _ _ _ _ => rfl, fun _ _ => rfl, fun _ _ _ => rfl, fun _ _ _ _ => rfl, fun _ _ => rfl⟩
namespace SepStep
open Go.RowKit RJ Go.Proofs.YtggmifnblcjdfaaGreatW.PrintWords Fp FpStep MInt MKinds MRead MMake MPut Go.Proofs.YtggmifnblcjdfaaGreat.Sep
theorem take_snoc {α : Type} {l : List α} {i : Nat} {x : α} (h : l[i]? = some x) : l.take (i + 1) = l.take i ++ [x] := by
 obtain ⟨h4, h5⟩ := List.getElem?_eq_some_iff.1 h
 rw [List.take_succ_eq_append_getElem h4, h5]
theorem cell_alloc {w : World} {a : Addr} {v : Value} (h : w.cell? a = some v) (o : Obj) : (w.alloc o).cell? a = some v := ((below_alloc (Below.refl _ _) o).cell (lt_of_cell h)).trans h
theorem frozen_alloc {w : World} {g : Nat} {t : TypeId} {cs : Array Value} (h : w.heap[g]? = some (.cells cs t (0, 0))) (o : Obj) (i : Nat) : (w.alloc o).frozen? ⟨g, i, none⟩ = false := blk_frozen (blk_alloc h o) i
theorem far4 {w : World} {g : Nat} {u0 u1 u2 u3 : Value} {a : Addr} {x : Value} (hg : g ≠ a.block) (h : w.cell? a = some x) : ((((w.setCell ⟨g, 0, none⟩ u0).setCell ⟨g, 1, none⟩ u1).setCell ⟨g, 2, none⟩ u2).setCell ⟨g, 3, none⟩ u3).cell? a = some x := by
 rw [World.cell?_setCell_far _ _ _ _ hg, World.cell?_setCell_far _ _ _ _ hg, World.cell?_setCell_far _ _ _ _ hg, World.cell?_setCell_far _ _ _ _ hg]; exact h
section
variable {α : Type} {P : Program} {ops : Array Oper} {rest : List Oper} {o : Oper} {a : Act} {K : Act → World → Prop} {Q : Exit → Act → World → Prop} {E : Prop} {w0 W Wd : World} {S : List Nat} {L : List Res}
theorem step_app {d : Od α} {e : TypeId} {F G : List Nat} {v : Value} {xs : List α} {y : α} {p : World → Prop} (HS : Sep w0 S W (rw_ d e F v xs :: (G, p) :: L)) (nd : Nat) (hgd : o.guard = none) (s x : Operand) (t : TypeId) (z : Value) (bytes : Nat)
  (ho : o.op = .call { callee := .builtin .append, args := #[s, x], argTypes := #[t, t] })
  (ht : P.underlying t = some (.slice e)) (hinfo : (P.info? e).map (fun i => (i.zero, i.size, i.bytes)) = some (some z, d.sz, bytes)) (hz : z.cells.size = d.sz) (hs0 : 0 < d.sz) (hb0 : 0 < bytes)
  (ys : List Value) (hy : d.M W G y ys) (hW : Wd = (W.alloc (.cells ys.toArray e)).drewN nd) (hs : a.eval s = v) (hx : a.eval x = .slice (some ⟨W.heap.size, 0, none⟩) 1 1) {n : Nat} (hn : xs.length = n) (hl : (n + 1) * bytes ≤ 140737488355328)
  (h : ∀ g cap w1 F1, Sep w0 S w1 (rw_ d e F1 (.slice (some ⟨g, 0, none⟩) (n + 1) cap) (xs ++ [y]) :: L) → K (a.put o.dst (.slice (some ⟨g, 0, none⟩) (n + 1) cap)) w1) :
  if Region.wanted o (yielded ops a.tmps) = true then Oper.wp P o a Wd K Q else E := by
 subst hn
 refine step_append_O d W nd hgd s x t e z bytes ho ht hinfo hz hs0 hb0 v xs F y G ys hW hs hx (HS.get 0 rfl) (HS.fnd 0 rfl) hy (HS.fnd (r := (G, p)) 1 rfl) (HS.apart (r := (G, p)) 1 0 rfl rfl (by decide)) hl ?_
 intro g cap w1 F1 ho1 hn1 hs1 hc1
 refine h g cap w1 F1 (HS.two (r := rw_ d e F1 _ _) (hc1.mono (fun k hk => List.mem_append_left _ hk)) hn1 (fun k hk => ?_) (lies_row ho1))
 rcases hs1 k hk with q | q | q
 ·exact .inl (List.mem_append_left _ q)
 ·exact .inl (List.mem_append_right _ q)
 ·exact .inr q
theorem step_app0 {d : Od α} {e : TypeId} {F : List Nat} {v : Value} {xs : List α} {y : α} (HS : Sep w0 S W (rw_ d e F v xs :: L)) (nd : Nat) (hgd : o.guard = none) (s x : Operand) (t : TypeId) (z : Value) (bytes : Nat)
  (ho : o.op = .call { callee := .builtin .append, args := #[s, x], argTypes := #[t, t] })
  (ht : P.underlying t = some (.slice e)) (hinfo : (P.info? e).map (fun i => (i.zero, i.size, i.bytes)) = some (some z, d.sz, bytes)) (hz : z.cells.size = d.sz) (hs0 : 0 < d.sz) (hb0 : 0 < bytes)
  (ys : List Value) (hy : d.M W [] y ys) (hW : Wd = (W.alloc (.cells ys.toArray e)).drewN nd) (hs : a.eval s = v) (hx : a.eval x = .slice (some ⟨W.heap.size, 0, none⟩) 1 1) {n : Nat} (hn : xs.length = n) (hl : (n + 1) * bytes ≤ 140737488355328)
  (h : ∀ g cap w1 F1, Sep w0 S w1 (rw_ d e F1 (.slice (some ⟨g, 0, none⟩) (n + 1) cap) (xs ++ [y]) :: L) → K (a.put o.dst (.slice (some ⟨g, 0, none⟩) (n + 1) cap)) w1) :
  if Region.wanted o (yielded ops a.tmps) = true then Oper.wp P o a Wd K Q else E :=
 step_app (G := []) (p := fun _ => True) ((HS.new (r := ([], fun _ => True)) ⟨Below.refl _ _, Fresh.nil _, ⟨by simp, fun _ _ => trivial⟩⟩).perm (List.Perm.swap _ _ _)) nd hgd s x t z bytes ho ht hinfo hz hs0 hb0 ys hy hW hs hx hn hl h
theorem app_ints (k : IntKind) {e : TypeId} {F : List Nat} {v : Value} {xs : List Int} (HS : Sep w0 S W (rw_ (Od.int k) e F v xs :: L)) (hgd : o.guard = none) (s x : Operand) (t : TypeId) (bytes : Nat)
  (ho : o.op = .call { callee := .builtin .append, args := #[s, x], argTypes := #[t, t] })
  (ht : P.underlying t = some (.slice e)) (hinfo : (P.info? e).map (fun i => (i.zero, i.size, i.bytes)) = some (some (.int k 0), 1, bytes)) (hb0 : 0 < bytes)
  (u : Value) (ys : List Int) (hs : a.eval s = v) (hx : a.eval x = u) (HR : RK (Kd.int k) W u ys) (hl : (xs.length + ys.length) * bytes ≤ 140737488355328)
  (h : ∀ A c w1 F1, Sep w0 S w1 (rw_ (Od.int k) e F1 (.slice A (xs.length + ys.length) c) (xs ++ ys) :: L) → wpList P ops Q rest (a.put o.dst (.slice A (xs.length + ys.length) c)) w1) :
  wpList P ops Q (o :: rest) a W := by
 refine append_ints k hgd s x t e bytes ho ht hinfo hb0 v u xs ys F hs hx (HS.get 0 rfl) HR hl ?_
 intro v1 w1 F1 ho1 hn1 hs1 hc1
 obtain ⟨A, c, rfl, hq⟩ := O_reads ho1
 rw [List.length_append] at *
 exact h A c w1 F1 (HS.upd 0 rfl ⟨hc1, hn1, hs1, lies_row ho1⟩)
theorem copy_ints (k : IntKind) {e : TypeId} {F : List Nat} {v : Value} (HS : Sep w0 S W (rw_ (Od.int k) e F v [] :: L)) (hgd : o.guard = none) (s x : Operand) (t : TypeId) (bytes : Nat)
  (ho : o.op = .call { callee := .builtin .append, args := #[s, x], argTypes := #[t, t] })
  (ht : P.underlying t = some (.slice e)) (hinfo : (P.info? e).map (fun i => (i.zero, i.size, i.bytes)) = some (some (.int k 0), 1, bytes)) (hb0 : 0 < bytes)
  (u : Value) (ys : List Int) (hs : a.eval s = v) (hx : a.eval x = u) (HR : RK (Kd.int k) W u ys) (hl : ys.length * bytes ≤ 140737488355328)
  (h : ∀ A c w1 F1, Sep w0 S w1 (rw_ (Od.int k) e F1 (.slice A ys.length c) ys :: L) → wpList P ops Q rest (a.put o.dst (.slice A ys.length c)) w1) :
  wpList P ops Q (o :: rest) a W :=
 app_ints k HS hgd s x t bytes ho ht hinfo hb0 u ys hs hx HR (by simpa using hl) (fun A c w1 F1 hh => by
  simp only [List.length_nil, Nat.zero_add, List.nil_append] at hh ⊢
  exact h A c w1 F1 hh)
theorem step_copy (k : IntKind) {e : TypeId} {F : List Nat} {v : Value} (HS : Sep w0 S W (rw_ (Od.int k) e F v [] :: L)) (hgd : o.guard = none) (s x : Operand) (t : TypeId) (bytes : Nat)
  (ho : o.op = .call { callee := .builtin .append, args := #[s, x], argTypes := #[t, t] })
  (ht : P.underlying t = some (.slice e)) (hinfo : (P.info? e).map (fun i => (i.zero, i.size, i.bytes)) = some (some (.int k 0), 1, bytes)) (hb0 : 0 < bytes)
  (u : Value) (ys : List Int) (hs : a.eval s = v) (hx : a.eval x = u) (HR : RK (Kd.int k) W u ys) (hl : ys.length * bytes ≤ 140737488355328)
  (h : ∀ A c w1 F1, Sep w0 S w1 (rw_ (Od.int k) e F1 (.slice A ys.length c) ys :: L) → K (a.put o.dst (.slice A ys.length c)) w1) :
  if Region.wanted o (yielded ops a.tmps) = true then Oper.wp P o a W K Q else E :=
 step_of_list hgd (fun Q' hQ => copy_ints k HS hgd s x t bytes ho ht hinfo hb0 u ys hs hx HR hl (fun A c w1 F1 hh => hQ _ _ (h A c w1 F1 hh)))
end
end SepStep
namespace SepStep
open Go.RowKit RJ Go.Proofs.YtggmifnblcjdfaaGreatW.PrintWords Fp FpStep MInt MKinds MRead MMake MPut Go.Proofs.YtggmifnblcjdfaaGreat.Sep
theorem me_form {w0 w : World} {S : List Nat} {L : List Res} {F : List Nat} {u : Value} {m : MemV} (h : Sep w0 S w (me F u m :: L)) : ∃ A1 q1 A2 q2 A3 q3, u = .agg #[.slice A1 m.secs.length q1, .slice A2 m.cache.length q2, .bool m.failed, .slice A3 m.bad.length q3] := by
 obtain ⟨s, c, b, F1, F2, F3, rfl, rfl, h1, h2, h3⟩ := (show MemO w F u m from h.get 0 rfl)
 obtain ⟨A1, q1, rfl, _⟩ := O_RK h1
 obtain ⟨A2, q2, rfl, _⟩ := O_RK h2
 obtain ⟨A3, q3, rfl, _⟩ := O_RK h3
 exact ⟨A1, q1, A2, q2, A3, q3, rfl⟩
section
variable {α : Type} {P : Program} {ops : Array Oper} {rest : List Oper} {o : Oper} {a : Act} {K : Act → World → Prop} {Q : Exit → Act → World → Prop} {E : Prop} {w0 W Wd : World} {S : List Nat} {L : List Res}
theorem app_one {d : Od α} {e : TypeId} {F G : List Nat} {v : Value} {xs : List α} {y : α} {p : World → Prop} (HS : Sep w0 S W (rw_ d e F v xs :: (G, p) :: L)) (hgd : o.guard = none) (s x : Operand) (t : TypeId) (z : Value) (bytes : Nat)
  (ho : o.op = .call { callee := .builtin .append, args := #[s, x], argTypes := #[t, t] })
  (ht : P.underlying t = some (.slice e)) (hinfo : (P.info? e).map (fun i => (i.zero, i.size, i.bytes)) = some (some z, d.sz, bytes)) (hz : z.cells.size = d.sz) (hs0 : 0 < d.sz) (hb0 : 0 < bytes)
  (ys : List Value) (hy : d.M W G y ys) (hs : a.eval s = v) {b : Nat} (hx : a.eval x = .slice (some ⟨b, 0, none⟩) 1 1) (hb : W.heap.size = b) {n : Nat} (hn : xs.length = n) (hl : (n + 1) * bytes ≤ 140737488355328)
  (h : ∀ A cap w1 F1, Sep w0 S w1 (rw_ d e F1 (.slice A (n + 1) cap) (xs ++ [y]) :: L) → wpList P ops Q rest (a.put o.dst (.slice A (n + 1) cap)) w1) :
  wpList P ops Q (o :: rest) a (W.alloc (.cells ys.toArray e)) := by
 subst hn hb
 refine append_O d hgd s x t e z bytes ho ht hinfo hz hs0 hb0 v xs F y G ys hs hx (HS.get 0 rfl) (HS.fnd 0 rfl) hy (HS.fnd (r := (G, p)) 1 rfl) (HS.apart (r := (G, p)) 1 0 rfl rfl (by decide)) hl ?_
 intro v1 w1 F1 ho1 hn1 hs1 hc1
 obtain ⟨A, c, rfl, hq⟩ := O_reads ho1
 rw [List.length_append] at *
 refine h A c w1 F1 (HS.two (r := rw_ d e F1 _ _) (hc1.mono (fun k hk => List.mem_append_left _ hk)) hn1 (fun k hk => ?_) (lies_row ho1))
 rcases hs1 k hk with q | q | q
 ·exact .inl (List.mem_append_left _ q)
 ·exact .inl (List.mem_append_right _ q)
 ·exact .inr q
theorem app_one0 {d : Od α} {e : TypeId} {F : List Nat} {v : Value} {xs : List α} {y : α} (HS : Sep w0 S W (rw_ d e F v xs :: L)) (hgd : o.guard = none) (s x : Operand) (t : TypeId) (z : Value) (bytes : Nat)
  (ho : o.op = .call { callee := .builtin .append, args := #[s, x], argTypes := #[t, t] })
  (ht : P.underlying t = some (.slice e)) (hinfo : (P.info? e).map (fun i => (i.zero, i.size, i.bytes)) = some (some z, d.sz, bytes)) (hz : z.cells.size = d.sz) (hs0 : 0 < d.sz) (hb0 : 0 < bytes)
  (ys : List Value) (hy : d.M W [] y ys) (hs : a.eval s = v) {b : Nat} (hx : a.eval x = .slice (some ⟨b, 0, none⟩) 1 1) (hb : W.heap.size = b) {n : Nat} (hn : xs.length = n) (hl : (n + 1) * bytes ≤ 140737488355328)
  (h : ∀ A cap w1 F1, Sep w0 S w1 (rw_ d e F1 (.slice A (n + 1) cap) (xs ++ [y]) :: L) → wpList P ops Q rest (a.put o.dst (.slice A (n + 1) cap)) w1) :
  wpList P ops Q (o :: rest) a (W.alloc (.cells ys.toArray e)) :=
 app_one (G := []) (p := fun _ => True) ((HS.new (r := ([], fun _ => True)) ⟨Below.refl _ _, Fresh.nil _, ⟨by simp, fun _ _ => trivial⟩⟩).perm (List.Perm.swap _ _ _)) hgd s x t z bytes ho ht hinfo hz hs0 hb0 ys hy hs hx hb hn hl h
theorem Sep.comp {w' : World} {M : List Res} (h : Sep w0 S W L) (k : Sep W [] w' M) : Sep w0 S w' (M ++ L) := by
 have kb := k.toBelow
 refine ⟨h.chg.trans (k.chg.mono (by simp)), ?_, fun q hq => ?_, fun r hr => ?_⟩
 ·rw [fps_append, List.nodup_append]
  refine ⟨k.nd, h.nd, fun a ha b hb e => ?_⟩
  subst e
  obtain ⟨r, hr, hk⟩ := mem_fps.1 hb
  have h1 := (h.all r hr).lt a hk
  have h2 := (k.sub a ha).resolve_left (by simp)
  omega
 ·rw [fps_append] at hq
  rcases List.mem_append.1 hq with hq | hq
  ·have := (k.sub q hq).resolve_left (by simp); have := h.chg.size; right; omega
  ·exact h.sub q hq
 ·rcases List.mem_append.1 hr with hr | hr
  ·exact k.all r hr
  ·exact (h.all r hr).move (fun q hq => kb.block q ((h.all r hr).lt q hq))
theorem Sep.put {d : Od α} {e : TypeId} {F G : List Nat} {g n cap i : Nat} {xs : List α} {y : α} {p : World → Prop} {us : List Value} (HS : Sep w0 S W (rw_ d e F (.slice (some ⟨g, 0, none⟩) n cap) xs :: (G, p) :: L)) (hi : i < xs.length) (hy : d.M W G y us) :
  ∃ F', Sep w0 S (setRun W g (i * d.sz) us) (rw_ d e F' (.slice (some ⟨g, 0, none⟩) n cap) (xs.set i y) :: L) := by
 obtain ⟨F', h1, h2, h3⟩ := O_put (HS.get 0 rfl) (HS.fnd 0 rfl) hi hy (HS.fnd (r := (G, p)) 1 rfl) (HS.apart (r := (G, p)) 1 0 rfl rfl (by decide))
 have hg : g ∈ F := mem_own (show d.O e W F _ xs from HS.get 0 rfl) g rfl
 refine ⟨F', HS.two (r := rw_ d e F' _ _) (chg_setRun (.inl (List.mem_append_left _ hg)) us W _ (Chg.refl _ _)) h2 (fun k hk => .inl ?_) (lies_row h1)⟩
 rcases h3 k hk with q | q
 ·exact List.mem_append_left _ q
 ·exact List.mem_append_right _ q
theorem make_sep (d : Od α) (HS : Sep w0 S W L) (hgd : o.guard = none) {N : Tmp} (hd : o.dst = some N) (t e : TypeId) (x y : Operand) (ho : o.op = .makeSlice t x y) (n : Nat) (hx : a.eval x = .int .i64 (n : Int)) (hy : a.eval y = .int .i64 (n : Int))
  (ht : P.underlying t = some (.slice e)) (z : Value) (bytes : Nat) (hinfo : (P.info? e).map (fun i => (i.zero, i.size, i.bytes)) = some (some z, d.sz, bytes)) (hz : z.cells.size = d.sz) (hs0 : 0 < d.sz) (hb0 : 0 < bytes)
  (z0 : α) (hzero : ∀ w', d.M w' [] z0 z.cells.toList) (hl : n * bytes ≤ 281474976710656)
  (h : ∀ w1 g, Sep w0 S w1 (rw_ d e [g] (.slice (some ⟨g, 0, none⟩) n n) (List.replicate n z0) :: L) → W.heap.size = g → wpList P ops Q rest (a.put o.dst (.slice (some ⟨g, 0, none⟩) n n)) w1) : wpList P ops Q (o :: rest) a W :=
 make_O d hgd hd t e x y ho n hx hy ht z bytes hinfo hz hs0 hb0 z0 hzero hl (fun w1 ho hb => h w1 _ (HS.new (new_row ho ⟨by simp, by simp⟩ hb)) rfl)
end
end SepStep
end Go.Proofs.YtggmifnblcjdfaaGreat
