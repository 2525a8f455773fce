/- sameInts, sameMem of the laws. -/
import Derived.Test.YtlmnmcfieagmbaaSepT
import Derived.Test.YtlmnmcfieagmbaaMVal
namespace Go.Proofs.Ytlmnmcfieagmbaa.MSame
open Go.RowKit Go.Proofs.YtlmnmcfieagmbaaW.PrintWords Go.Proofs.Ytlmnmcfieagmbaa.Fp Go.Proofs.Ytlmnmcfieagmbaa.MInt Go.Proofs.Ytlmnmcfieagmbaa.MKinds Go.Proofs.Ytlmnmcfieagmbaa.MRead Go.Proofs.Ytlmnmcfieagmbaa.MMake Go.Proofs.Ytlmnmcfieagmbaa.MPut Go.Proofs.Ytlmnmcfieagmbaa.MVal Go.Proofs.Ytlmnmcfieagmbaa.Sep Go.Proofs.Ytlmnmcfieagmbaa.SepStep
set_option linter.unusedVariables false
set_option linter.unusedSimpArgs false
set_option maxHeartbeats 1000000 in
theorem c_sameInts {w : World} {v u : Value} {xs ys : List Int} (hx : RK (Kd.int .i64) w v xs) (hy : RK (Kd.int .i64) w u ys) :
    Calls Try.prog 30 #[v, u] w fun e w' => e = .returned (.bool (decide (xs = ys))) ∧ ∃ n, w' = w.drewN n := by
  have lx := RK_len hx
  have ly := RK_len hy
  by_cases hne : xs.length = ys.length
  · by_cases h0 : 0 < xs.length
    · obtain ⟨a, ca, rfl, ha⟩ := ints_at hx h0
      obtain ⟨b, cb, rfl, hb⟩ := ints_at hy (by omega)
      have Ha := Aside0.mk ha
      have Hb := Aside0.mk hb
      have Hne := Aside0.mk hne
      rw [← hne]
      clear ha hb hx hy hne
      go_enter Try.func30, Try.ntmps30
      go_wp2
      go_loopw [5] (fun v5 wr => ∃ i : Nat, i ≤ xs.length ∧ v5 = .int .i64 i ∧ Aside0 (xs.take i = ys.take i) ∧ ∃ n, wr = w.drewN n) (fun v5 _ => xs.length - (intOf v5).toNat)
      case atStart => exact ⟨0, by omega, rfl, ⟨rfl⟩, 0, rfl⟩
      case round =>
        obtain ⟨i, hi, rfl, ht, n, rfl⟩ := hrel
        by_cases hlt : i < xs.length
        · have hlt' : i < ys.length := by have := Hne.out; omega
          obtain ⟨x, hxi⟩ : ∃ x, xs[i]? = some x := ⟨_, List.getElem?_eq_getElem hlt⟩
          obtain ⟨y, hyi⟩ : ∃ y, ys[i]? = some y := ⟨_, List.getElem?_eq_getElem hlt'⟩
          have ca := Ha.out i x hxi
          have cb := Hb.out i y hyi
          have Hxi := Aside0.mk hxi
          have Hyi := Aside0.mk hyi
          clear hxi hyi
          by_cases hxy : x = y
          · subst hxy
            go_wp2
            go_quiet (fail)
            go_wp2
            go_roundw
            case rel => exact ⟨i + 1, by omega, by go_num, ⟨take_next ht.out Hxi.out Hyi.out⟩, _, rfl⟩
            case measure => simp [intOf]; omega
          · have hxy' : (x == y) = false := by simpa using hxy
            have hd : decide (xs = ys) = false := by
              rw [decide_eq_false_iff_not]; rintro rfl
              have := Hxi.out.symm.trans Hyi.out
              exact hxy (Option.some.inj this)
            go_wp2
            go_quiet (fail)
            go_wp2
            go_ret
            exact ⟨ret_bool hd.symm, by first | exact ⟨_, rfl⟩ | exact ⟨_, World.drewN_drewN _ _ _⟩⟩
        · obtain rfl : i = xs.length := by omega
          have hd : decide (xs = ys) = true := by
            rw [decide_eq_true_eq]
            have h1 := ht.out
            have h2 := Hne.out
            rwa [List.take_of_length_le (by omega), List.take_of_length_le (by omega)] at h1
          go_wp2
          go_ret
          exact ⟨ret_bool hd.symm, n, rfl⟩
    · have h1 : xs = [] := List.eq_nil_of_length_eq_zero (by omega)
      have h2 : ys = [] := List.eq_nil_of_length_eq_zero (by omega)
      subst h1 h2
      obtain ⟨A, ca, rfl, _, _⟩ := hx
      obtain ⟨B, cb, rfl, _, _⟩ := hy
      go_enter Try.func30, Try.ntmps30
      go_wp2
      refine wp_loop_rounds 1 ?_
      rw [rounds_succ]
      go_wp2
      go_ret
      exact ⟨rfl, 0, rfl⟩
  · obtain ⟨A, ca, rfl, _, _⟩ := hx
    obtain ⟨B, cb, rfl, _, _⟩ := hy
    have hd : decide (xs = ys) = false := by rw [decide_eq_false_iff_not]; rintro rfl; exact hne rfl
    go_enter Try.func30, Try.ntmps30
    go_wp2
    go_ret
    exact ⟨ret_bool hd.symm, 0, rfl⟩
theorem mem_eq {x y : MemV} (h1 : x.secs = y.secs) (h2 : x.cache = y.cache) (h3 : x.failed = y.failed) (h4 : x.bad = y.bad) : x = y := by
  obtain ⟨a1, a2, a3, a4⟩ := x
  obtain ⟨b1, b2, b3, b4⟩ := y
  simp only at h1 h2 h3 h4
  subst h1 h2 h3 h4
  rfl
theorem all_eq {α : Type} {xs ys : List α} (hl : xs.length = ys.length) (h : xs.take xs.length = ys.take xs.length) : xs = ys := by
  rwa [List.take_of_length_le (Nat.le_refl _), List.take_of_length_le (by omega)] at h
set_option maxHeartbeats 4000000 in
set_option maxRecDepth 100000 in
theorem c_sameMem {w : World} {v u : Value} {x y : MemV} (hx : MemR w v x) (hy : MemR w u y) :
    Calls Try.prog 31 #[v, u] w fun e w' => e = .returned (.bool (decide (x = y))) ∧ Below w.heap.size w w' := by
  obtain ⟨s, c, b, rfl, h1, h2, h3⟩ := hx
  obtain ⟨s', c', b', rfl, h1', h2', h3'⟩ := hy
  obtain ⟨A1, d1, rfl, l1, _⟩ := id h1
  obtain ⟨A2, d2, rfl, l2, _⟩ := id h2
  obtain ⟨A3, d3, rfl, l3, _⟩ := id h3
  obtain ⟨B1, e1, rfl, l4, _⟩ := id h1'
  obtain ⟨B2, e2, rfl, l5, _⟩ := id h2'
  obtain ⟨B3, e3, rfl, l6, _⟩ := id h3'
  have n1 := RK_len h1
  have n2 := RK_len h2
  have HA := Aside0.mk h1
  have HC := Aside0.mk h2
  have HB := Aside0.mk h3
  have HA' := Aside0.mk h1'
  have HC' := Aside0.mk h2'
  have HB' := Aside0.mk h3'
  clear h1 h2 h3 h1' h2' h3' l1 l2 l3 l4 l5 l6
  have HS0 := Aside0.mk (((Sep.start w []).alloc (g := w.heap.size) rfl #[.slice A1 x.secs.length d1, .slice A2 x.cache.length d2, .bool x.failed, .slice A3 x.bad.length d3] 30).alloc (g := w.heap.size + 1) (by simp) #[.slice B1 y.secs.length e1, .slice B2 y.cache.length e2, .bool y.failed, .slice B3 y.bad.length e3] 30)
  generalize hxf : x.failed = xf at *
  generalize hyf : y.failed = yf at *
  have Hxf := Aside0.mk hxf
  have Hyf := Aside0.mk hyf
  clear hxf hyf
  by_cases q1 : x.secs.length = y.secs.length
  case neg =>
    have hd : decide (x = y) = false := by rw [decide_eq_false_iff_not]; rintro rfl; exact q1 rfl
    have Hd := Aside0.mk hd
    clear hd
    have q1' : ((x.secs.length : Int) == (y.secs.length : Int)) = false := by simp; omega
    go_enter Try.func31, Try.ntmps31
    go_wp2
    go_ret
    exact ⟨ret_bool Hd.out.symm, HS0.out.toBelow⟩
  have Q1 := Aside0.mk q1
  rw [← q1] at HS0 HA' ⊢
  clear q1
  by_cases q2 : x.cache.length = y.cache.length
  case neg =>
    have hd : decide (x = y) = false := by rw [decide_eq_false_iff_not]; rintro rfl; exact q2 rfl
    have Hd := Aside0.mk hd
    clear hd
    have q2' : ((x.cache.length : Int) == (y.cache.length : Int)) = false := by simp; omega
    go_enter Try.func31, Try.ntmps31
    go_wp2
    go_ret
    exact ⟨ret_bool Hd.out.symm, HS0.out.toBelow⟩
  have Q2 := Aside0.mk q2
  rw [← q2] at HS0 HC' ⊢
  clear q2
  by_cases q3 : xf = yf
  case neg =>
    have hd : decide (x = y) = false := by rw [decide_eq_false_iff_not]; rintro rfl; exact q3 (Hxf.out.symm.trans Hyf.out)
    have Hd := Aside0.mk hd
    clear hd
    have q3' : (xf == yf) = false := by simpa using q3
    go_enter Try.func31, Try.ntmps31
    go_wp2
    go_ret
    exact ⟨ret_bool Hd.out.symm, HS0.out.toBelow⟩
  subst q3
  go_enter Try.func31, Try.ntmps31
  by_cases q4 : x.bad = y.bad
  case neg =>
    have hd : decide (x = y) = false := by rw [decide_eq_false_iff_not]; rintro rfl; exact q4 rfl
    have Hd := Aside0.mk hd
    have Q4 := Aside0.mk (decide_eq_false q4)
    clear hd q4
    go_wp2_with (first
      | (go_at_call 30; refine (c_sameInts (HS0.out.rk HB.out) (HS0.out.rk HB'.out)).mono ?_; rw [Q4.out]; rintro e w1 ⟨rfl, hb⟩; have HS1 := Aside0.mk (HS0.out.dr hb); clear hb)
      | fail)
    go_ret
    exact ⟨ret_bool Hd.out.symm, HS1.out.toBelow⟩
  have Q4 := Aside0.mk q4
  clear q4
  go_wp2_with (first
    | (go_at_call 30; refine (c_sameInts (HS0.out.rk HB.out) (HS0.out.rk HB'.out)).mono ?_; rw [decide_eq_true Q4.out]; rintro e w1 ⟨rfl, hb⟩; have hs1 := HS0.out.dr hb; have HS1 := Aside0.mk hs1; clear hb hs1)
    | fail)
  go_loopw [5] (fun v5 wr => ∃ i : Nat, i ≤ x.secs.length ∧ v5 = .int .i64 i ∧ Aside0 (x.secs.take i = y.secs.take i) ∧ Aside0 (Sep w [] wr [bx (w.heap.size + 1) 30 #[.slice B1 x.secs.length e1, .slice B2 x.cache.length e2, .bool xf, .slice B3 y.bad.length e3], bx w.heap.size 30 #[.slice A1 x.secs.length d1, .slice A2 x.cache.length d2, .bool xf, .slice A3 x.bad.length d3]])) (fun v5 _ => x.secs.length - (intOf v5).toNat)
  case atStart => exact ⟨0, by omega, rfl, ⟨rfl⟩, HS1⟩
  case round =>
    obtain ⟨i, hi, rfl, ht, HR⟩ := hrel
    obtain ⟨k1, k2, k3, k4⟩ := four (HR.out.get 1 rfl)
    obtain ⟨j1, j2, j3, j4⟩ := four (HR.out.get 0 rfl)
    by_cases hlt : i < x.secs.length
    · have hlt' : i < y.secs.length := by have := Q1.out; omega
      obtain ⟨a, hai⟩ : ∃ a, x.secs[i]? = some a := ⟨_, List.getElem?_eq_getElem hlt⟩
      obtain ⟨b, hbi⟩ : ∃ b, y.secs[i]? = some b := ⟨_, List.getElem?_eq_getElem hlt'⟩
      obtain ⟨ad, ca, ea, ha⟩ := RK_slices HA.out (by omega)
      obtain rfl := (Value.slice.inj ea).1
      obtain ⟨bd, cb, eb, hb⟩ := RK_slices HA'.out (by omega)
      obtain rfl := (Value.slice.inj eb).1
      obtain ⟨ux, cx, rx⟩ := ha i a hai
      obtain ⟨uy, cy, ry⟩ := hb i b hbi
      replace cx := HR.out.old cx
      replace cy := HR.out.old cy
      have Rx := Aside0.mk (HR.out.rk rx)
      have Ry := Aside0.mk (HR.out.rk ry)
      have Hxi := Aside0.mk hai
      have Hyi := Aside0.mk hbi
      have hi0 : (0 : Int) ≤ (i : Int) := by omega
      have hil : (i : Int) < (x.secs.length : Int) := by omega
      clear hai hbi rx ry ea eb ha hb
      by_cases hxy : a = b
      · subst hxy
        have hc : ∀ m, Calls Try.prog 30 #[ux, uy] (wr.drewN m) fun e w' => e = .returned (.bool true) ∧ ∃ n, w' = (wr.drewN m).drewN n := fun m => by
          have h := c_sameInts ((Dr.refl _).next m |>.rk Rx.out) ((Dr.refl _).next m |>.rk Ry.out)
          rwa [decide_eq_true rfl] at h
        go_upto_region 6 with fail
        go_quiet ((go_at_call 30; exact Calls.quiet_of (hc _)))
        go_wp2
        go_roundw
        case rel => exact ⟨i + 1, by omega, by go_num, ⟨take_next ht.out Hxi.out Hyi.out⟩, ⟨HR.out.drewN _⟩⟩
        case measure => simp [intOf]; omega
      · have hc : ∀ m, Calls Try.prog 30 #[ux, uy] (wr.drewN m) fun e w' => e = .returned (.bool false) ∧ ∃ n, w' = (wr.drewN m).drewN n := fun m => by
          have h := c_sameInts ((Dr.refl _).next m |>.rk Rx.out) ((Dr.refl _).next m |>.rk Ry.out)
          rwa [decide_eq_false hxy] at h
        have hd : decide (x = y) = false := by
          rw [decide_eq_false_iff_not]; rintro rfl
          have := Hxi.out.symm.trans Hyi.out
          exact hxy (Option.some.inj this)
        have Hd := Aside0.mk hd
        clear hd
        go_upto_region 6 with fail
        go_quiet ((go_at_call 30; exact Calls.quiet_of (hc _)))
        go_wp2
        go_ret
        exact ⟨ret_bool Hd.out.symm, (HR.out.drewN _).toBelow⟩
    · obtain rfl : i = x.secs.length := by omega
      have QS := Aside0.mk (all_eq Q1.out ht.out)
      clear ht
      go_wp2
      have HR0 := HR
      clear HR k1 k2 k3 k4 j1 j2 j3 j4
      go_loopw [6] (fun v6 wr => ∃ i : Nat, i ≤ x.cache.length ∧ v6 = .int .i64 i ∧ Aside0 (x.cache.take i = y.cache.take i) ∧ Aside0 (Sep w [] wr [bx (w.heap.size + 1) 30 #[.slice B1 x.secs.length e1, .slice B2 x.cache.length e2, .bool xf, .slice B3 y.bad.length e3], bx w.heap.size 30 #[.slice A1 x.secs.length d1, .slice A2 x.cache.length d2, .bool xf, .slice A3 x.bad.length d3]])) (fun v6 _ => x.cache.length - (intOf v6).toNat)
      case atStart => exact ⟨0, by omega, rfl, ⟨rfl⟩, HR0⟩
      case round =>
        clear HR0
        obtain ⟨i, hi, rfl, ht, HR⟩ := hrel
        obtain ⟨k1, k2, k3, k4⟩ := four (HR.out.get 1 rfl)
        obtain ⟨j1, j2, j3, j4⟩ := four (HR.out.get 0 rfl)
        by_cases hlt : i < x.cache.length
        · have hlt' : i < y.cache.length := by have := Q2.out; omega
          obtain ⟨⟨an, a⟩, hai⟩ : ∃ a, x.cache[i]? = some a := ⟨_, List.getElem?_eq_getElem hlt⟩
          obtain ⟨⟨bn, b⟩, hbi⟩ : ∃ b, y.cache[i]? = some b := ⟨_, List.getElem?_eq_getElem hlt'⟩
          obtain ⟨ad, ca, ea, ha⟩ := RK_wrs HC.out (by omega)
          obtain rfl := (Value.slice.inj ea).1
          obtain ⟨bd, cb, eb, hb⟩ := RK_wrs HC'.out (by omega)
          obtain rfl := (Value.slice.inj eb).1
          obtain ⟨ux, nx, cx, rx⟩ := ha i _ hai
          obtain ⟨uy, ny, cy, ry⟩ := hb i _ hbi
          replace nx := HR.out.old nx
          replace ny := HR.out.old ny
          replace cx := HR.out.old cx
          replace cy := HR.out.old cy
          simp only at nx ny cx cy
          have Rx := Aside0.mk (HR.out.rk rx)
          have Ry := Aside0.mk (HR.out.rk ry)
          have Hxi := Aside0.mk hai
          have Hyi := Aside0.mk hbi
          have hi0 : (0 : Int) ≤ (i : Int) := by omega
          have hil : (i : Int) < (x.cache.length : Int) := by omega
          clear hai hbi rx ry ea eb ha hb
          by_cases hn : an = bn
          · subst hn
            have hnn : (an == an) = true := by simp
            by_cases hxy : a = b
            · subst hxy
              have hc : ∀ m, Calls Try.prog 30 #[ux, uy] (wr.drewN m) fun e w' => e = .returned (.bool true) ∧ ∃ n, w' = (wr.drewN m).drewN n := fun m => by
                have h := c_sameInts ((Dr.refl _).next m |>.rk Rx.out) ((Dr.refl _).next m |>.rk Ry.out)
                rwa [decide_eq_true rfl] at h
              go_upto_region 11 with fail
              go_quiet ((go_at_call 30; exact Calls.quiet_of (hc _)))
              go_wp2
              go_roundw
              case rel => exact ⟨i + 1, by omega, by go_num, ⟨take_next ht.out Hxi.out Hyi.out⟩, ⟨HR.out.drewN _⟩⟩
              case measure => simp [intOf]; omega
            · have hc : ∀ m, Calls Try.prog 30 #[ux, uy] (wr.drewN m) fun e w' => e = .returned (.bool false) ∧ ∃ n, w' = (wr.drewN m).drewN n := fun m => by
                have h := c_sameInts ((Dr.refl _).next m |>.rk Rx.out) ((Dr.refl _).next m |>.rk Ry.out)
                rwa [decide_eq_false hxy] at h
              have hd : decide (x = y) = false := by
                rw [decide_eq_false_iff_not]; rintro rfl
                have := Hxi.out.symm.trans Hyi.out
                exact hxy (Prod.mk.inj (Option.some.inj this)).2
              have Hd := Aside0.mk hd
              clear hd
              go_upto_region 11 with fail
              go_quiet ((go_at_call 30; exact Calls.quiet_of (hc _)))
              go_wp2
              go_ret
              exact ⟨ret_bool Hd.out.symm, (HR.out.drewN _).toBelow⟩
          · have hnn : (an == bn) = false := by simpa using hn
            have hd : decide (x = y) = false := by
              rw [decide_eq_false_iff_not]; rintro rfl
              have := Hxi.out.symm.trans Hyi.out
              exact hn (Prod.mk.inj (Option.some.inj this)).1
            have Hd := Aside0.mk hd
            clear hd
            go_upto_region 11 with fail
            go_quiet (fail)
            go_wp2
            go_ret
            exact ⟨ret_bool Hd.out.symm, (HR.out.drewN _).toBelow⟩
        · obtain rfl : i = x.cache.length := by omega
          have QC := all_eq Q2.out ht.out
          have hd : decide (x = y) = true := by
            rw [decide_eq_true_eq]
            exact mem_eq QS.out QC (Hxf.out.trans Hyf.out.symm) Q4.out
          have Hd := Aside0.mk hd
          clear hd QC ht
          go_wp2
          go_ret
          exact ⟨ret_bool Hd.out.symm, HR.out.toBelow⟩
end Go.Proofs.Ytlmnmcfieagmbaa.MSame
