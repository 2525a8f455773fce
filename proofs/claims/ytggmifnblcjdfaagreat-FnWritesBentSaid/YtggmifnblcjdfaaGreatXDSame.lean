/- Own text: DSame. -/
import Derived.Test.YtggmifnblcjdfaaGreatXB3
import Derived.Test.YtggmifnblcjdfaaGreatXABun4
set_option linter.unusedVariables false
set_option linter.unusedSimpArgs false
namespace Go.Proofs.YtggmifnblcjdfaaGreat
namespace DSame
open Go.RowKit Go.Proofs.YtggmifnblcjdfaaGreatW.PrintWords Fp MInt MKinds MRead MMake MPut RJ RP RPC Go.Proofs.YtggmifnblcjdfaaGreat.Sep SepStep AKinds
set_option maxHeartbeats 1000000 in
theorem c_sameInts {w : World} {v u : Value} {xs : List Int} (hx : RK (Kd.int .i64) w v xs) (hy : RK (Kd.int .i64) w u xs) :
  Calls Tryz.prog 101 #[v, u] w fun e w' => e = .returned (.bool true) ∧ ∃ n, w' = w.drewN n := by
 have lx := RK_len hx
 by_cases h0 : 0 < xs.length
 ·obtain ⟨a, ca, rfl, ha⟩ := ints_at hx h0
  obtain ⟨b, cb, rfl, hb⟩ := ints_at hy h0
  have Ha := Aside0.mk ha
  have Hb := Aside0.mk hb
  clear ha hb hx hy
  go_enter Tryz.func101, Tryz.ntmps101
  go_wp2
  go_loopw [5] (fun v5 wr => ∃ i : Nat, i ≤ xs.length ∧ v5 = .int .i64 i ∧ ∃ n, wr = w.drewN n) (fun v5 _ => xs.length - (intOf v5).toNat)
  case atStart => exact ⟨0, by omega, rfl, 0, rfl⟩
  case round =>
   obtain ⟨i, hi, rfl, n, rfl⟩ := hrel
   by_cases hlt : i < xs.length
   ·obtain ⟨x, hxi⟩ : ∃ x, xs[i]? = some x := ⟨_, List.getElem?_eq_getElem hlt⟩
    have ca := Ha.out i x hxi
    have cb := Hb.out i x hxi
    clear hxi
    go_wp2
    go_quiet (fail)
    go_wp2
    go_roundw
    case rel => exact ⟨i + 1, by omega, by go_num, _, rfl⟩
    case measure => simp [intOf]; omega
   ·obtain rfl : i = xs.length := by omega
    go_wp2
    go_ret
    exact ⟨rfl, n, rfl⟩
 ·have h1 : xs = [] := List.eq_nil_of_length_eq_zero (by omega)
  subst h1
  obtain ⟨A, ca, rfl, _, _⟩ := hx
  obtain ⟨B, cb, rfl, _, _⟩ := hy
  go_enter Tryz.func101, Tryz.ntmps101
  go_wp2
  refine wp_loop_rounds 1 ?_
  rw [rounds_succ]
  go_wp2
  go_ret
  exact ⟨rfl, 0, rfl⟩
set_option maxHeartbeats 4000000 in
set_option maxRecDepth 100000 in
theorem c_sameMem {w : World} {v u : Value} {x : MemV} (hx : MemR w v x) (hy : MemR w u x) :
  Calls Tryz.prog 100 #[v, u] w fun e w' => e = .returned (.bool true) ∧ Below w.heap.size w w' := by
 obtain ⟨s, c, b, rfl, h1, h2, h3⟩ := hx
 obtain ⟨s', c', b', rfl, h1', h2', h3'⟩ := hy
 obtain ⟨A1, d1, rfl, l1, _⟩ := id h1
 obtain ⟨A2, d2, rfl, l2, _⟩ := id h2
 obtain ⟨A3, d3, rfl, l3, _⟩ := id h3
 obtain ⟨B1, e1, rfl, l4, _⟩ := id h1'
 obtain ⟨B2, e2, rfl, l5, _⟩ := id h2'
 obtain ⟨B3, e3, rfl, l6, _⟩ := id h3'
 have n1 := RK_len h1
 have n2 := RK_len h2
 have HA := Aside0.mk h1
 have HC := Aside0.mk h2
 have HB := Aside0.mk h3
 have HA' := Aside0.mk h1'
 have HC' := Aside0.mk h2'
 have HB' := Aside0.mk h3'
 clear h1 h2 h3 h1' h2' h3' l1 l2 l3 l4 l5 l6
 have HS0 := Aside0.mk (((Sep.start w []).alloc (g := w.heap.size) rfl #[.slice A1 x.secs.length d1, .slice A2 x.cache.length d2, .bool x.failed, .slice A3 x.bad.length d3] 89).alloc (g := w.heap.size + 1) (by simp) #[.slice B1 x.secs.length e1, .slice B2 x.cache.length e2, .bool x.failed, .slice B3 x.bad.length e3] 89)
 generalize x.failed = xf at *
 go_enter Tryz.func100, Tryz.ntmps100
 go_wp2_with (first
  | (go_at_call 101; refine (c_sameInts (HS0.out.rk HB.out) (HS0.out.rk HB'.out)).mono ?_; rintro e w1 ⟨rfl, hb⟩; have hs1 := HS0.out.dr hb; have HS1 := Aside0.mk hs1; clear hb hs1)
  | fail)
 go_loopw [5] (fun v5 wr => ∃ i : Nat, i ≤ x.secs.length ∧ v5 = .int .i64 i ∧ Aside0 (Sep w [] wr [bx (w.heap.size + 1) 89 #[.slice B1 x.secs.length e1, .slice B2 x.cache.length e2, .bool xf, .slice B3 x.bad.length e3], bx w.heap.size 89 #[.slice A1 x.secs.length d1, .slice A2 x.cache.length d2, .bool xf, .slice A3 x.bad.length d3]])) (fun v5 _ => x.secs.length - (intOf v5).toNat)
 case atStart => exact ⟨0, by omega, rfl, HS1⟩
 case round =>
  obtain ⟨i, hi, rfl, HR⟩ := hrel
  obtain ⟨k1, k2, k3, k4⟩ := four (HR.out.get 1 rfl)
  obtain ⟨j1, j2, j3, j4⟩ := four (HR.out.get 0 rfl)
  by_cases hlt : i < x.secs.length
  ·obtain ⟨a, hai⟩ : ∃ a, x.secs[i]? = some a := ⟨_, List.getElem?_eq_getElem hlt⟩
   obtain ⟨ad, ca, ea, ha⟩ := RK_slices HA.out (by omega)
   obtain rfl := (Value.slice.inj ea).1
   obtain ⟨bd, cb, eb, hb⟩ := RK_slices HA'.out (by omega)
   obtain rfl := (Value.slice.inj eb).1
   obtain ⟨ux, cx, rx⟩ := ha i a hai
   obtain ⟨uy, cy, ry⟩ := hb i a hai
   replace cx := HR.out.old cx
   replace cy := HR.out.old cy
   have Rx := Aside0.mk (HR.out.rk rx)
   have Ry := Aside0.mk (HR.out.rk ry)
   have hi0 : (0 : Int) ≤ (i : Int) := by omega
   have hil : (i : Int) < (x.secs.length : Int) := by omega
   clear hai rx ry ea eb ha hb
   have hc : ∀ m, Calls Tryz.prog 101 #[ux, uy] (wr.drewN m) fun e w' => e = .returned (.bool true) ∧ ∃ n, w' = (wr.drewN m).drewN n := fun m => c_sameInts ((Dr.refl _).next m |>.rk Rx.out) ((Dr.refl _).next m |>.rk Ry.out)
   go_upto_region 6 with fail
   go_quiet ((go_at_call 101; exact Calls.quiet_of (hc _)))
   go_wp2
   go_roundw
   case rel => exact ⟨i + 1, by omega, by go_num, ⟨HR.out.drewN _⟩⟩
   case measure => simp [intOf]; omega
  ·obtain rfl : i = x.secs.length := by omega
   go_wp2
   have HR0 := HR
   clear HR k1 k2 k3 k4 j1 j2 j3 j4
   go_loopw [6] (fun v6 wr => ∃ i : Nat, i ≤ x.cache.length ∧ v6 = .int .i64 i ∧ Aside0 (Sep w [] wr [bx (w.heap.size + 1) 89 #[.slice B1 x.secs.length e1, .slice B2 x.cache.length e2, .bool xf, .slice B3 x.bad.length e3], bx w.heap.size 89 #[.slice A1 x.secs.length d1, .slice A2 x.cache.length d2, .bool xf, .slice A3 x.bad.length d3]])) (fun v6 _ => x.cache.length - (intOf v6).toNat)
   case atStart => exact ⟨0, by omega, rfl, HR0⟩
   case round =>
    clear HR0
    obtain ⟨i, hi, rfl, HR⟩ := hrel
    obtain ⟨k1, k2, k3, k4⟩ := four (HR.out.get 1 rfl)
    obtain ⟨j1, j2, j3, j4⟩ := four (HR.out.get 0 rfl)
    by_cases hlt : i < x.cache.length
    ·obtain ⟨⟨an, a⟩, hai⟩ : ∃ a, x.cache[i]? = some a := ⟨_, List.getElem?_eq_getElem hlt⟩
     obtain ⟨ad, ca, ea, ha⟩ := RK_wrs HC.out (by omega)
     obtain rfl := (Value.slice.inj ea).1
     obtain ⟨bd, cb, eb, hb⟩ := RK_wrs HC'.out (by omega)
     obtain rfl := (Value.slice.inj eb).1
     obtain ⟨ux, nx, cx, rx⟩ := ha i _ hai
     obtain ⟨uy, ny, cy, ry⟩ := hb i _ hai
     replace nx := HR.out.old nx
     replace ny := HR.out.old ny
     replace cx := HR.out.old cx
     replace cy := HR.out.old cy
     simp only at nx ny cx cy
     have Rx := Aside0.mk (HR.out.rk rx)
     have Ry := Aside0.mk (HR.out.rk ry)
     have hi0 : (0 : Int) ≤ (i : Int) := by omega
     have hil : (i : Int) < (x.cache.length : Int) := by omega
     clear hai rx ry ea eb ha hb
     have hnn : (an == an) = true := by simp
     have hc : ∀ m, Calls Tryz.prog 101 #[ux, uy] (wr.drewN m) fun e w' => e = .returned (.bool true) ∧ ∃ n, w' = (wr.drewN m).drewN n := fun m => c_sameInts ((Dr.refl _).next m |>.rk Rx.out) ((Dr.refl _).next m |>.rk Ry.out)
     go_upto_region 11 with fail
     go_quiet ((go_at_call 101; exact Calls.quiet_of (hc _)))
     go_wp2
     go_roundw
     case rel => exact ⟨i + 1, by omega, by go_num, ⟨HR.out.drewN _⟩⟩
     case measure => simp [intOf]; omega
    ·obtain rfl : i = x.cache.length := by omega
     go_wp2
     go_ret
     exact ⟨rfl, HR.out.toBelow⟩
set_option maxHeartbeats 4000000 in
set_option maxRecDepth 100000 in
theorem c_sameMems {w : World} {v u : Value} {l : List MemV} (hx : RK kMem w v l) (hy : RK kMem w u l) :
  Calls Tryz.prog 56 #[v, u] w fun e w' => e = .returned (.bool true) ∧ Below w.heap.size w w' := by
 have ll := RK_len hx
 obtain ⟨A, c, rfl, _, _⟩ := id hx
 obtain ⟨B, d, rfl, _, _⟩ := id hy
 have HX := Aside0.mk hx
 have HY := Aside0.mk hy
 clear hx hy
 go_enter Tryz.func56, Tryz.ntmps56
 go_wp2
 go_loopw [5] (fun v5 wr => ∃ i : Nat, i ≤ l.length ∧ v5 = .int .i64 i ∧ Aside0 (Below w.heap.size w wr)) (fun v5 _ => l.length - (intOf v5).toNat)
 case atStart => exact ⟨0, by omega, rfl, ⟨Below.refl _ _⟩⟩
 case round =>
  obtain ⟨i, hi, rfl, HR⟩ := hrel
  by_cases hlt : i < l.length
  ·obtain ⟨x, hxi⟩ : ∃ x, l[i]? = some x := ⟨_, List.getElem?_eq_getElem hlt⟩
   obtain ⟨ad, ca, ea, ha⟩ := RK_mems HX.out (by omega)
   obtain rfl := (Value.slice.inj ea).1
   obtain ⟨bd, cb, eb, hb⟩ := RK_mems HY.out (by omega)
   obtain rfl := (Value.slice.inj eb).1
   obtain ⟨A1, c1, A2, c2, A3, c3, x0, x1, x2, x3, hM⟩ := ha i x hxi
   obtain ⟨B1, d1, B2, d2, B3, d3, y0, y1, y2, y3, hN⟩ := hb i x hxi
   have hbw := HR.out
   have hi0 : (0 : Int) ≤ (i : Int) := by omega
   have hil : (i : Int) < (l.length : Int) := by omega
   have HM := Aside0.mk (MemR_below hM hbw)
   have HN := Aside0.mk (MemR_below hN hbw)
   have later : ∀ {cc : Addr} {vv : Value}, w.cell? cc = some vv → ∀ w', Below wr.heap.size wr w' → w'.cell? cc = some vv := fun {cc vv} h w' hb2 => ((hbw.trans (hb2.mono hbw.size)).cell (lt_of_cell h)).trans h
   have HALL := Aside0.mk (fun (w' : World) (hb : Below wr.heap.size wr w') => And.intro (later x0 w' hb) (And.intro (later x1 w' hb) (And.intro (later x2 w' hb) (And.intro (later x3 w' hb) (And.intro (later y0 w' hb) (And.intro (later y1 w' hb) (And.intro (later y2 w' hb) (later y3 w' hb))))))))
   clear ea eb ha hb x0 x1 x2 x3 y0 y1 y2 y3 hM hN hxi later
   generalize x.failed = xf at *
   go_upto_region 6 with fail
   refine wp_region_seqc (fun w' => Below wr.heap.size wr w') [] [(0, 2), (1, 2), (2, 2), (4, 2), (5, 2), (6, 2), (3, 1), (7, 1), (8, 0), (9, 2)] (by kernel_rfl) (by kernel_rfl) ?_
   have hS : Below wr.heap.size wr wr.drew := Below.drew (Below.refl _ _)
   repeat ((first | (refine seqp_pure rfl (fun _ _ _ h => h) (by rfl) (fun w_ => by go_simp; first | done | with_reducible rfl) ?_) | (refine seqp_take hS rfl (fun _ _ _ h => h) (by rfl) (fun w_ hSw => by have hSc := HALL.out w_ hSw; clear hSw; go_simp; first | done | with_reducible rfl) ?_) | (refine seqp_skip2 rfl (fun _ _ _ h => h) (by rfl) ?_) | (refine seqp_skip1 hS rfl (fun _ _ _ h => h) (by rfl) ?_) | (refine seqp_skip0 rfl (by rfl) ?_)); (try simp only [Act.put, qqP]))
   have HM1 := Aside0.mk (MemR_below HM.out hS)
   have HN1 := Aside0.mk (MemR_below HN.out hS)
   refine seqp_step rfl (fun K hK => ?_)
   go_simp
   go_at_call 100; refine (c_sameMem HM1.out HN1.out).mono ?_; rintro e w2 ⟨rfl, hb⟩
   replace hS := hS.trans (hb.mono hS.size); clear hb; refine hK.out _ _ ⟨fun _ _ => hS, ?_⟩; clear hK K; (try simp only [Act.put, qqP])
   have HB2 := Aside0.mk (hbw.trans (hS.mono hbw.size))
   repeat ((first | (refine seqp_pure rfl (fun _ _ _ h => h) (by rfl) (fun w_ => by go_simp; first | done | with_reducible rfl) ?_) | (refine seqp_take hS rfl (fun _ _ _ h => h) (by rfl) (fun w_ hSw => by have hSc := HALL.out w_ hSw; clear hSw; go_simp; first | done | with_reducible rfl) ?_) | (refine seqp_skip2 rfl (fun _ _ _ h => h) (by rfl) ?_) | (refine seqp_skip1 hS rfl (fun _ _ _ h => h) (by rfl) ?_) | (refine seqp_skip0 rfl (by rfl) ?_)); (try simp only [Act.put, qqP]))
   clear hS HALL
   refine seqp_done ?_
   go_wp2
   go_roundw
   case rel => exact ⟨i + 1, by omega, by go_num, HB2⟩
   case measure => simp [intOf]; omega
  ·obtain rfl : i = l.length := by omega
   go_wp2
   go_ret
   exact ⟨rfl, HR.out⟩
set_option maxHeartbeats 4000000 in
set_option maxRecDepth 100000 in
theorem c_sameDirty {w : World} {v u : Value} {l : List (Int × List Int)} (hx : RK kWr w v l) (hy : RK kWr w u l) :
  Calls Tryz.prog 57 #[v, u] w fun e w' => e = .returned (.bool true) ∧ ∃ n, w' = w.drewN n := by
 have ll := RK_len hx
 obtain ⟨A, c, rfl, _, _⟩ := id hx
 obtain ⟨B, d, rfl, _, _⟩ := id hy
 have HX := Aside0.mk hx
 have HY := Aside0.mk hy
 clear hx hy
 go_enter Tryz.func57, Tryz.ntmps57
 go_wp2
 go_loopw [5] (fun v5 wr => ∃ i : Nat, i ≤ l.length ∧ v5 = .int .i64 i ∧ ∃ n, wr = w.drewN n) (fun v5 _ => l.length - (intOf v5).toNat)
 case atStart => exact ⟨0, by omega, rfl, 0, rfl⟩
 case round =>
  obtain ⟨i, hi, rfl, n, hn⟩ := hrel
  have HN := Aside0.mk hn
  clear hn
  by_cases hlt : i < l.length
  ·obtain ⟨⟨an, a⟩, hai⟩ : ∃ a, l[i]? = some a := ⟨_, List.getElem?_eq_getElem hlt⟩
   obtain ⟨ad, ca, ea, ha⟩ := RK_wrs HX.out (by omega)
   obtain rfl := (Value.slice.inj ea).1
   obtain ⟨bd, cb, eb, hb⟩ := RK_wrs HY.out (by omega)
   obtain rfl := (Value.slice.inj eb).1
   obtain ⟨ux, nx, cx, rx⟩ := ha i _ hai
   obtain ⟨uy, ny, cy, ry⟩ := hb i _ hai
   simp only at nx ny cx cy
   replace nx := Dr.cell ⟨n, HN.out⟩ nx
   replace ny := Dr.cell ⟨n, HN.out⟩ ny
   replace cx := Dr.cell ⟨n, HN.out⟩ cx
   replace cy := Dr.cell ⟨n, HN.out⟩ cy
   have Rx := Aside0.mk (Dr.rk ⟨n, HN.out⟩ rx)
   have Ry := Aside0.mk (Dr.rk ⟨n, HN.out⟩ ry)
   have hi0 : (0 : Int) ≤ (i : Int) := by omega
   have hil : (i : Int) < (l.length : Int) := by omega
   clear hai rx ry ea eb ha hb
   have hnn : (an == an) = true := by simp
   have hc : ∀ m, Calls Tryz.prog 101 #[ux, uy] (wr.drewN m) fun e w' => e = .returned (.bool true) ∧ ∃ n, w' = (wr.drewN m).drewN n := fun m => c_sameInts ((Dr.refl _).next m |>.rk Rx.out) ((Dr.refl _).next m |>.rk Ry.out)
   go_upto_region 6 with fail
   go_quiet ((go_at_call 101; exact Calls.quiet_of (hc _)))
   go_wp2
   go_roundw
   case rel => exact ⟨i + 1, by omega, by go_num, by rw [HN.out]; exact ⟨_, World.drewN_drewN _ _ _⟩⟩
   case measure => simp [intOf]; omega
  ·obtain rfl : i = l.length := by omega
   go_wp2
   go_ret
   exact ⟨rfl, n, HN.out⟩
set_option maxHeartbeats 8000000 in
set_option maxRecDepth 100000 in
theorem c_sameArr {w : World} {v u : Value} {a : ArrV} (hx : ArrR w v a) (hy : ArrR w u a) :
  Calls Tryz.prog 20 #[v, u] w fun e w' => e = .returned (.bool true) ∧ Below w.heap.size w w' := by
 obtain ⟨vm, vd, rfl, r1, r2⟩ := hx
 obtain ⟨um, ud, rfl, q1, q2⟩ := hy
 have R1 := Aside0.mk r1
 have R2 := Aside0.mk r2
 have Q1 := Aside0.mk q1
 have Q2 := Aside0.mk q2
 clear r1 r2 q1 q2
 have H0 := Aside0.mk (((Sep.start w []).alloc (g := w.heap.size) rfl (arrC a vm vd) 34).alloc (g := w.heap.size + 1) (by simp) (arrC a um ud) 34)
 simp only [arrC] at *
 have k0 := thirteen (H0.out.get 1 rfl)
 have k1 := thirteen (H0.out.get 0 rfl)
 go_enter Tryz.func20, Tryz.ntmps20
 go_wp2_with (first
  | (go_at_call 57; refine (c_sameDirty (HS1.out.rk R2.out) (HS1.out.rk Q2.out)).mono ?_; rintro e w2 ⟨rfl, hb⟩; have HS2 := Aside0.mk (HS1.out.dr hb); clear hb k0 k1; have k0 := thirteen (HS2.out.get 1 rfl); have k1 := thirteen (HS2.out.get 0 rfl))
  | (go_at_call 56; refine (c_sameMems (H0.out.rk R1.out) (H0.out.rk Q1.out)).mono ?_; rintro e w1 ⟨rfl, hb⟩; have HS1 := Aside0.mk (H0.out.below hb); clear hb k0 k1; have k0 := thirteen (HS1.out.get 1 rfl); have k1 := thirteen (HS1.out.get 0 rfl))
  | fail)
 go_ret
 exact ⟨rfl, HS2.out.toBelow⟩
end DSame
end Go.Proofs.YtggmifnblcjdfaaGreat
