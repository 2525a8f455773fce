/- Own text: DDraw DGeoD DAny DSync. -/
import Derived.Test.YtggmifnblcjdfaaGreatXB9
import Derived.Test.YtggmifnblcjdfaaGreatXB10
import Derived.Test.YtggmifnblcjdfaaGreatXAQStripe
import Derived.Test.YtggmifnblcjdfaaGreatXB11
set_option linter.unusedVariables false
set_option linter.unusedSimpArgs false
namespace Go.Proofs.YtggmifnblcjdfaaGreat
namespace DDraw
open Go.RowKit RJ RP Go.Proofs.YtggmifnblcjdfaaGreatW.PrintWords Fp FpStep MInt MKinds MRead MMake MPut MHeld MOk MVal MSuper MDraw Go.Proofs.YtggmifnblcjdfaaGreat.Sep SepStep AKinds AArr AOk AOkD ANewV ANewS AXor AStrV AQStripe DRes DInv DEnd DGeo DTurn
theorem small_set {m : MemV} {x : List Int} {i : Nat} (h : ∀ y ∈ m.secs, y.length ≤ 16777216) (hx : x.length ≤ 16777216) : ∀ y ∈ m.secs.set i x, y.length ≤ 16777216 := by
 intro y hy
 rcases List.mem_or_eq_of_mem_set hy with hy | rfl
 ·exact h y hy
 ·exact hx
theorem secs_small {id n s : Int} (hs : 1 ≤ s ∧ s ≤ 8) (m : Nat) : ∀ j, ((secsS id n s m j).length : Int) = 6 + s ∧ ∀ y ∈ secsS id n s m j, y.length ≤ 16777216
 | 0 => by
  have h1 := dk_new (n := 6 + s) (by omega)
  refine ⟨by rw [secsS, List.length_set]; exact h1.2, ?_⟩
  rw [secsS]
  exact small_set (m := newV (6 + s)) h1.1.2.1 (by have := AMarkV.putSup_len (supN id n s m); omega)
 | j + 1 => by
  obtain ⟨h1, h2⟩ := secs_small (id := id) (n := n) hs m j
  refine ⟨by rw [secsS, List.length_set]; exact h1, ?_⟩
  rw [secsS]
  exact small_set (m := ⟨secsS id n s m j, [], false, []⟩) h2 (by simp)
theorem fit_new {id n s : Int} (hi : 1 ≤ id ∧ id ≤ 2) (hn : 3 ≤ n ∧ n ≤ 5) (hs : 1 ≤ s ∧ s ≤ 4) : Fit 0 0 (newR id n s) := by
 have hg : geoB n s = true := by simp [geoB, inR]; omega
 have ho : newOk id n s = true := by unfold newOk; rw [hg]; simp [inR]; omega
 unfold newR
 rw [if_pos ho]
 refine ⟨hg, by show ((memsN id n s n.toNat).length : Int) = n; rw [memsN_len]; omega, ?_, ⟨by show (-1 : Int) ≤ -1; omega, by show (-1 : Int) < n; omega⟩, ⟨Int.le_refl 0, by show 0 ≤ s; omega⟩, ⟨Int.le_refl 0, Int.le_refl 0⟩, ⟨Int.le_refl 0, Int.le_refl 0⟩, ⟨Int.le_refl 0, Int.le_refl 0⟩, Int.le_refl 0, (fun e he => by cases he), rfl, rfl, rfl⟩
 intro m hm
 obtain ⟨j, hj, rfl⟩ := List.mem_map.1 hm
 obtain ⟨h1, h2⟩ := secs_small (id := id) (n := n) (s := s) ⟨hs.1, by omega⟩ j s.toNat
 exact ⟨⟨by show (secsS id n s j s.toNat).length ≤ _; omega, h2, by simp [dskN, dskS], by simp [dskN, dskS], by simp [dskN, dskS]⟩, h1⟩
def Av (w0 w : World) (v : Value) (a : ArrV) (L : List Res) : Prop :=
 ∃ (A1 : Option Addr) (c1 : Nat) (A2 : Option Addr) (c2 : Nat) (F1 F2 F3 : List Nat) (es : List (Int × Value)), v = .agg (arrC a (.slice A1 a.mems.length c1) (.slice A2 a.dirty.length c2)) ∧ es.length = a.dirty.length ∧
  Sep w0 [] w (rw_ oMem 89 F1 (.slice A1 a.mems.length c1) a.mems :: rw_ oShl 91 F2 (.slice A2 a.dirty.length c2) es :: da F3 es a.dirty :: L)
def DrR (w0 : World) (gc : Nat) (B : Value) (n : Nat) (L : List Res) (b d : Int) (e : Ending) (w' : World) : Prop := ∃ (v : Value) (a' : ArrV) (i' h' : Int), e = .returned v ∧ Fit b d a' ∧ (0 ≤ i' ∧ i' ≤ n) ∧ Av w0 w' v a' (cur gc B i' h' :: L)
theorem dr_end {w0 w' : World} {gc n : Nat} {B : Value} {L : List Res} {b d i' h' : Int} {a' : ArrV} {v : Value} {e : Ending} (he : e = .returned v) (h1 : Fit b d a') (h2 : 0 ≤ i' ∧ i' ≤ n) (h3 : Av w0 w' v a' (cur gc B i' h' :: L)) : DrR w0 gc B n L b d e w' := ⟨v, a', i', h', he, h1, h2, h3⟩
set_option maxHeartbeats 2000000 in
theorem c_l6Geo {w0 w : World} {L : List Res} {g : Nat} {B : Value} {bs : List Int} {i h : Int} (hs : Sep w0 [] w (cur g B i h :: L)) (hB : RK (Kd.int .u8) w0 B bs) (hi : 0 ≤ i ∧ i ≤ bs.length) :
  Calls Tryz.prog 139 #[.pointer (some ⟨g, 0, none⟩)] w fun e w' => ∃ (N st i' h' : Int), e = .returned (.agg #[.int .i64 N, .int .i64 st]) ∧ ((3 ≤ N ∧ N ≤ 5) ∧ (1 ≤ st ∧ st ≤ 4)) ∧ (0 ≤ i' ∧ i' ≤ bs.length) ∧ Sep w0 [] w' (cur g B i' h' :: L) := by
 have HS := Aside0.mk hs
 clear hs
 go_enter Tryz.func139, Tryz.ntmps139
 go_wp2_with (first
  | (go_at_call 94; (first
    | (refine (c_l1Below HS1.out hB hi1 (by omega)).mono ?_; rintro e w2 ⟨y, i2, h2, rfl, hy0, hy1, hi2, hs2⟩; have hy2 := hy1 (by omega); have HS2 := Aside0.mk hs2; obtain ⟨z0, z1⟩ := two_cells (HS2.out.get 1 rfl); have fz := blk_frozen (HS2.out.get 1 rfl); clear hs2 hy1)
    | (refine (c_l1Below ((HS.out.alloc (g := w.heap.size) rfl #[.int .i64 0, .int .i64 0] 30).perm (List.Perm.swap _ _ _)) hB hi (by omega)).mono ?_; rintro e w1 ⟨x, i1, h1, rfl, hx0, hx1, hi1, hs1⟩; have hx2 := hx1 (by omega); have HS1 := Aside0.mk hs1; clear hs1 hx1)))
  | fail)
 have HE : Sep w0 [] _ _ := (HS2.out.setb 1 rfl 0 (.int .i64 (3 + x)) (cs' := #[.int .i64 (3 + x), .int .i64 0]) rfl).setb 1 (t := 30) (cs := #[.int .i64 (3 + x), .int .i64 0]) rfl 1 (.int .i64 (1 + y)) (cs' := #[.int .i64 (3 + x), .int .i64 (1 + y)]) rfl
 have h9 := HE.drop 1 rfl
 refine bodyPost_ret (results_cell_row rfl _ _ w.heap.size 30 #[.int .i64 (3 + x), .int .i64 (1 + y)] (0, 0) _ rfl (HE.get 1 rfl) Tryz.underlying30 rfl (by kernel_rfl)) rfl ?_
 exact ⟨3 + x, 1 + y, i2, h2, rfl, ⟨⟨by omega, by omega⟩, by omega, by omega⟩, hi2, h9⟩
set_option maxHeartbeats 8000000 in
set_option maxRecDepth 100000 in
theorem c_l6Draw {w0 w : World} {gc : Nat} {B : Value} {bs : List Int} {i h : Int} {L : List Res} {most : Int} (hs : Sep w0 [] w (cur gc B i h :: L)) (hB : RK (Kd.int .u8) w0 B bs) (hi : 0 ≤ i ∧ i ≤ bs.length) (hm : 0 ≤ most ∧ most ≤ 30) :
  Calls Tryz.prog 93 #[.pointer (some ⟨gc, 0, none⟩), .int .i64 most] w (DrR w0 gc B bs.length L 4000 40) := by
 have HI := Aside0.mk ((hs.alloc (g := w.heap.size) rfl arrZ 34).perm (List.Perm.swap _ _ _))
 have HB0 := Aside0.mk hB
 clear hs
 simp only [arrZ] at *
 go_enter Tryz.func93, Tryz.ntmps93
 go_upto_region 2 with (first
  | (go_at_call 138; refine (c_specArrNew _ _ _ _).mono ?_; rintro e w3 ⟨u, F3, rfl, hn⟩; have hq := HS2.out.new hn; clear hn; have hf := fit_new (id := 1 + x) (n := N) (s := st) (by omega) hN.1 hN.2; generalize newR (1 + x) N st = a at *; have HF := Aside0.mk hf; clear hf; obtain ⟨A1, c1, A2, c2, G1, G2, rfl, hq2⟩ := Sep.ofArr hq; simp only [arrC] at *; have HS3 := Aside0.mk hq2; clear hq hq2)
  | (go_at_call 139; refine (c_l6Geo HS1.out hB hi1).mono ?_; rintro e w2 ⟨N, st, i2, h2, rfl, hN, hi2, hq⟩; have HS2 := Aside0.mk hq; clear hq)
  | (go_at_call 94; refine (c_l1Below HI.out hB hi (by omega)).mono ?_; rintro e w1 ⟨x, i1, h1, rfl, hx0, hx1, hi1, hq⟩; have hx2 := hx1 (by omega); have HS1 := Aside0.mk hq; clear hq hx1)
  | fail)
 obtain ⟨hh, cap9, hv9, _, _⟩ := O_form (show oMem.O 89 w3 G1 (.slice A1 a.mems.length c1) a.mems from HS3.out.get 0 rfl) (by have := HF.out.len; have := HF.out.n; omega)
 obtain rfl := (Value.slice.inj hv9).1
 have hq := HS3.out.alloc (g := w3.heap.size) rfl #[.int .i64 a.id, .int .i64 a.gn, .int .i64 a.gs, .slice (some ⟨hh, 0, none⟩) a.mems.length c1, .int .i64 a.lost, .int .i64 a.built, .int .i64 a.seq, .int .i64 a.tail, .int .i64 a.gen, .slice A2 a.dirty.length c2, .int .i64 a.fuse, .bool a.down, .bool a.broken] 34
 generalize w3.alloc (.cells #[.int .i64 a.id, .int .i64 a.gn, .int .i64 a.gs, .slice (some ⟨hh, 0, none⟩) a.mems.length c1, .int .i64 a.lost, .int .i64 a.built, .int .i64 a.seq, .int .i64 a.tail, .int .i64 a.gen, .slice A2 a.dirty.length c2, .int .i64 a.fuse, .bool a.down, .bool a.broken] 34 (0, 0)) = w4 at *
 generalize w3.heap.size = g5 at *
 have hq2 := hq.selT 5 [2, 0, 1, 3, 4] (by decide) (by simp <;> omega)
 simp only [qqN, qqT] at hq2
 obtain ⟨es, E1, E2, hel, hq3⟩ := Sep.dirt hq2
 have hq4 := hq3.selT 6 [2, 3, 0, 1, 4, 5] (by decide) (by simp <;> omega)
 simp only [qqN, qqT] at hq4
 generalize w.heap.size = gr at *
 have HB4 := Aside0.mk (Bx.le hel hq4)
 clear hq hq2 hq3 hq4 hv9 hel HS3 HS2 HS1
 go_wp2_with (first
  | (go_at_call 94; refine (c_belowB HB4.out hB hi2 (by omega)).mono ?_; rintro e w5 ⟨k0, i5, h5, rfl, hk0, hk1, hi5, hq⟩; have hk2 := hk1 (by omega); have HB5 := Aside0.mk hq; clear hq hk1)
  | fail)
 go_loopw [6] (fun v6 wr => ∃ (k : Int) (a1 : ArrV) (i' h' : Int), v6 = .int .i64 k ∧ (0 ≤ k ∧ k ≤ most) ∧ (0 ≤ i' ∧ i' ≤ bs.length) ∧ Aside0 (Fit (100 * (most - k)) (most - k) a1) ∧ Aside0 (Bx w0 wr g5 a1 (cur gc B i' h' :: bx gr 34 #[.int .i64 0, .int .i64 0, .int .i64 0, .slice none 0 0, .int .i64 0, .int .i64 0, .int .i64 0, .int .i64 0, .int .i64 0, .slice none 0 0, .int .i64 0, .bool false, .bool false] :: L))) (fun v6 _ => (intOf v6).toNat)
 case atStart => exact ⟨k0, a, i5, h5, rfl, ⟨by omega, by omega⟩, hi5, ⟨HF.out.le (by omega) (by omega)⟩, HB5⟩
 case round =>
  clear HB4 HB5 HF HI
  obtain ⟨k, a, i', h', rfl, hk, hi', HF, HR⟩ := hrel
  by_cases h0 : 0 < k
  ·go_wp2_with (first
    | (go_at_call 140; refine (c_l6Turn HR.out hB hi' HF.out (by omega) (by omega)).mono ?_; rintro e w6 ⟨rfl, a', i6, h6, hf6, hi6, hb6⟩; have HF6 := Aside0.mk hf6; have HB6 := Aside0.mk hb6; clear hf6 hb6)
    | fail)
   go_roundw
   case rel => exact ⟨k - 1, a', i6, h6, by go_num, ⟨by omega, by omega⟩, hi6, ⟨HF6.out.le (by omega) (by omega)⟩, HB6⟩
   case measure => first | (simp [intOf]; done) | (simp [intOf]; omega)
  ·obtain ⟨hh, c1, A2, c2, F1, F2, F3, es, hel, hs⟩ := HR.out
   simp only [arrC] at hs
   have HS := Aside0.mk hs
   have HEL := Aside0.mk hel
   clear hs hel
   have kk := thirteen (HS.out.get 0 rfl)
   have zz := thirteen (HS.out.get 5 rfl)
   have gz := blk_frozen (HS.out.get 5 rfl)
   go_wp2
   have HE := Sep.box13 HS.out 5 rfl (.int .i64 a.id) (.int .i64 a.gn) (.int .i64 a.gs) (.slice (some ⟨hh, 0, none⟩) a.mems.length c1) (.int .i64 a.lost) (.int .i64 a.built) (.int .i64 a.seq) (.int .i64 a.tail) (.int .i64 a.gen) (.slice A2 a.dirty.length c2) (.int .i64 a.fuse) (.bool a.down) (.bool a.broken)
   refine bodyPost_ret (results_cell_row rfl _ _ gr 34 #[.int .i64 a.id, .int .i64 a.gn, .int .i64 a.gs, .slice (some ⟨hh, 0, none⟩) a.mems.length c1, .int .i64 a.lost, .int .i64 a.built, .int .i64 a.seq, .int .i64 a.tail, .int .i64 a.gen, .slice A2 a.dirty.length c2, .int .i64 a.fuse, .bool a.down, .bool a.broken] (0, 0) _ rfl (HE.get 5 rfl) Tryz.underlying34 rfl (by kernel_rfl)) rfl ?_
   have hq := HE.selT 6 [1, 2, 3, 4] (by decide) (by simp <;> omega)
   simp only [qqN, qqT] at hq
   exact dr_end rfl (HF.out.le (by omega) (by omega)) hi' ⟨_, c1, A2, c2, F1, F2, F3, es, rfl, HEL.out, hq⟩
end DDraw
namespace DGeoD
open Go.RowKit RJ RP RPC Go.Proofs.YtggmifnblcjdfaaGreatW.PrintWords Fp FpStep MInt MKinds MRead MMake MPut MHeld MOk MVal MValB MSuper MDraw MDraw2 MDraw4 Go.Proofs.YtggmifnblcjdfaaGreat.Sep SepStep AKinds AArr AHole AOk AOkD AXor AStrV AQStripe DRes DInv DEnd DGeo DTurn DDraw
set_option maxHeartbeats 2000000 in
theorem c_l3Geo {w0 w : World} {L : List Res} {g : Nat} {B : Value} {bs : List Int} {i h : Int} (hs : Sep w0 [] w (cur g B i h :: L)) (hB : RK (Kd.int .u8) w0 B bs) (hi : 0 ≤ i ∧ i ≤ bs.length) :
  Calls Tryz.prog 144 #[.pointer (some ⟨g, 0, none⟩)] w fun e w' => ∃ (N st i' h' : Int), e = .returned (.agg #[.int .i64 N, .int .i64 st]) ∧ (3 ≤ N ∧ N ≤ 5) ∧ (0 ≤ i' ∧ i' ≤ bs.length) ∧ Sep w0 [] w' (cur g B i' h' :: L) := by
 have HS := Aside0.mk hs
 clear hs
 go_enter Tryz.func144, Tryz.ntmps144
 go_wp2_with (first
  | (go_at_call 94; (first
    | (refine (c_l1Below HS1.out hB hi1 (by omega)).mono ?_; rintro e w2 ⟨y, i2, h2, rfl, hy0, hy1, hi2, hs2⟩; have hy2 := hy1 (by omega); have HS2 := Aside0.mk hs2; obtain ⟨z0, z1⟩ := two_cells (HS2.out.get 1 rfl); have fz := blk_frozen (HS2.out.get 1 rfl); clear hs2 hy1)
    | (refine (c_l1Below ((HS.out.alloc (g := w.heap.size) rfl #[.int .i64 0, .int .i64 0] 30).perm (List.Perm.swap _ _ _)) hB hi (by omega)).mono ?_; rintro e w1 ⟨x, i1, h1, rfl, hx0, hx1, hi1, hs1⟩; have hx2 := hx1 (by omega); have HS1 := Aside0.mk hs1; clear hs1 hx1)))
  | fail)
 have HE : Sep w0 [] _ _ := (HS2.out.setb 1 rfl 0 (.int .i64 (3 + x)) (cs' := #[.int .i64 (3 + x), .int .i64 0]) rfl).setb 1 (t := 30) (cs := #[.int .i64 (3 + x), .int .i64 0]) rfl 1 (.int .i64 (1 + y)) (cs' := #[.int .i64 (3 + x), .int .i64 (1 + y)]) rfl
 have h9 := HE.drop 1 rfl
 refine bodyPost_ret (results_cell_row rfl _ _ w.heap.size 30 #[.int .i64 (3 + x), .int .i64 (1 + y)] (0, 0) _ rfl (HE.get 1 rfl) Tryz.underlying30 rfl (by kernel_rfl)) rfl ?_
 exact ⟨3 + x, 1 + y, i2, h2, rfl, ⟨by omega, by omega⟩, hi2, h9⟩
def GeR (w0 : World) (g : Nat) (B : Value) (n : Nat) (L : List Res) (e : Ending) (w' : World) : Prop := ∃ (N st i' h' : Int), e = .returned (.agg #[.int .i64 N, .int .i64 st]) ∧ (-1 ≤ N ∧ N ≤ 6) ∧ (0 ≤ i' ∧ i' ≤ n) ∧ Sep w0 [] w' (cur g B i' h' :: L)
theorem ge_end {w0 w' : World} {g n : Nat} {B : Value} {L : List Res} {N st i' h' : Int} {e : Ending} (he : e = .returned (.agg #[.int .i64 N, .int .i64 st])) (h1 : -1 ≤ N ∧ N ≤ 6) (h2 : 0 ≤ i' ∧ i' ≤ n) (h3 : Sep w0 [] w' (cur g B i' h' :: L)) : GeR w0 g B n L e w' := ⟨N, st, i', h', he, h1, h2, h3⟩
set_option maxHeartbeats 4000000 in
set_option maxRecDepth 100000 in
theorem c_l3Any {w0 w : World} {L : List Res} {g : Nat} {B : Value} {bs : List Int} {i h : Int} (hs : Sep w0 [] w (cur g B i h :: L)) (hB : RK (Kd.int .u8) w0 B bs) (hi : 0 ≤ i ∧ i ≤ bs.length) :
  Calls Tryz.prog 98 #[.pointer (some ⟨g, 0, none⟩)] w (GeR w0 g B bs.length L) := by
 have HI := Aside0.mk ((hs.alloc (g := w.heap.size) rfl #[.int .i64 0, .int .i64 0] 30).perm (List.Perm.swap _ _ _))
 clear hs
 go_enter Tryz.func98, Tryz.ntmps98
 go_upto_region 2 with (first
  | (go_at_call 144; refine (c_l3Geo HI.out hB hi).mono ?_; rintro e w1 ⟨N, st, i1, h1, rfl, hN, hi1, hq⟩; have HS1 := Aside0.mk hq; clear hq)
  | fail)
 have hq := (HS1.out.alloc (g := w1.heap.size) rfl #[.int .i64 N, .int .i64 st] 30).selT 3 [1, 0, 2] (by decide) (by simp <;> omega)
 simp only [qqN, qqT] at hq
 generalize w1.alloc (.cells #[.int .i64 N, .int .i64 st] 30 (0, 0)) = w2 at *
 generalize w1.heap.size = g3 at *
 generalize w.heap.size = gr at *
 have HS2 := Aside0.mk hq
 clear hq HS1 HI
 go_upto_region 3 with (first
  | (go_at_call 94; refine (c_l1Below HS2.out hB hi1 (by omega)).mono ?_; rintro e w3 ⟨y, i3, h3, rfl, hy0, hy1, hi3, hq⟩; have hy2 := hy1 (by omega); have HS3 := Aside0.mk hq; clear hq hy1)
  | fail)
 have kk := two_cells (HS3.out.get 1 rfl)
 have gk := blk_frozen (HS3.out.get 1 rfl)
 have zz := two_cells (HS3.out.get 2 rfl)
 have gz := blk_frozen (HS3.out.get 2 rfl)
 by_cases y0 : y = 0
 ·subst y0
  go_wp2_with (first
   | (go_at_call 55; have hn := (new_lit HS3.out (g := w3.heap.size) rfl 3 (#[.int .i64 0, .int .i64 2, .int .i64 6, .int .i64 (-1)]) (l := [0, 2, 6, -1]) (n := 4) rfl rfl (by decide)).selT 4 [1, 0, 2, 3] (by decide) (by simp <;> omega); simp only [qqN, qqT] at hn; refine (c_l1Int hn hB hi3 (fun w' hw => O_RK (hw.get 0 rfl)) (by decide)).mono ?_; rintro e w5 ⟨z, i5, h5, rfl, hz, hi5, hs5⟩; have hq := hs5.selT 4 [0, 2, 3] (by decide) (by simp <;> omega); simp only [qqN, qqT] at hq; have hq2 := hq.setb 1 rfl 0 (.int .i64 z) rfl; simp only [qqN] at hq2; have HS5 := Aside0.mk hq2; have HQ := Aside0.mk hq; clear hs5 hn hq hq2 kk gk zz gz; have kk := two_cells (HQ.out.get 1 rfl); have gk := blk_frozen (HQ.out.get 1 rfl); have zz := two_cells (HQ.out.get 2 rfl); have gz := blk_frozen (HQ.out.get 2 rfl); have hne := HQ.out.neq 1 2 rfl rfl (by decide))
   | fail)
  have HE : Sep w0 [] _ _ := (HS5.out.setb 2 rfl 0 (.int .i64 z) (cs' := #[.int .i64 z, .int .i64 0]) rfl).setb 2 (t := 30) (cs := #[.int .i64 z, .int .i64 0]) rfl 1 (.int .i64 st) (cs' := #[.int .i64 z, .int .i64 st]) rfl
  refine bodyPost_ret (results_cell_row rfl _ _ gr 30 #[.int .i64 z, .int .i64 st] (0, 0) _ rfl (HE.get 2 rfl) Tryz.underlying30 rfl (by kernel_rfl)) rfl ?_
  have h9 := HE.selT 3 [0] (by decide) (by simp <;> omega)
  simp only [qqN, qqT] at h9
  exact ge_end rfl (by simp at hz; omega) hi5 h9
 by_cases y1 : y = 1
 ·subst y1
  go_wp2_with (first
   | (go_at_call 55; have hn := (new_lit HS3.out (g := w3.heap.size) rfl 3 (#[.int .i64 0, .int .i64 9, .int .i64 (-1)]) (l := [0, 9, -1]) (n := 3) rfl rfl (by decide)).selT 4 [1, 0, 2, 3] (by decide) (by simp <;> omega); simp only [qqN, qqT] at hn; refine (c_l1Int hn hB hi3 (fun w' hw => O_RK (hw.get 0 rfl)) (by decide)).mono ?_; rintro e w5 ⟨z, i5, h5, rfl, hz, hi5, hs5⟩; have hq := hs5.selT 4 [0, 2, 3] (by decide) (by simp <;> omega); simp only [qqN, qqT] at hq; have hq2 := hq.setb 1 rfl 1 (.int .i64 z) rfl; simp only [qqN] at hq2; have HS5 := Aside0.mk hq2; have HQ := Aside0.mk hq; clear hs5 hn hq hq2 kk gk zz gz; have kk := two_cells (HQ.out.get 1 rfl); have gk := blk_frozen (HQ.out.get 1 rfl); have zz := two_cells (HQ.out.get 2 rfl); have gz := blk_frozen (HQ.out.get 2 rfl); have hne := HQ.out.neq 1 2 rfl rfl (by decide))
   | fail)
  have HE : Sep w0 [] _ _ := (HS5.out.setb 2 rfl 0 (.int .i64 N) (cs' := #[.int .i64 N, .int .i64 0]) rfl).setb 2 (t := 30) (cs := #[.int .i64 N, .int .i64 0]) rfl 1 (.int .i64 z) (cs' := #[.int .i64 N, .int .i64 z]) rfl
  refine bodyPost_ret (results_cell_row rfl _ _ gr 30 #[.int .i64 N, .int .i64 z] (0, 0) _ rfl (HE.get 2 rfl) Tryz.underlying30 rfl (by kernel_rfl)) rfl ?_
  have h9 := HE.selT 3 [0] (by decide) (by simp <;> omega)
  simp only [qqN, qqT] at h9
  exact ge_end rfl ⟨by omega, by omega⟩ hi5 h9
 go_wp2
 have HE : Sep w0 [] _ _ := (HS3.out.setb 2 rfl 0 (.int .i64 N) (cs' := #[.int .i64 N, .int .i64 0]) rfl).setb 2 (t := 30) (cs := #[.int .i64 N, .int .i64 0]) rfl 1 (.int .i64 st) (cs' := #[.int .i64 N, .int .i64 st]) rfl
 refine bodyPost_ret (results_cell_row rfl _ _ gr 30 #[.int .i64 N, .int .i64 st] (0, 0) _ rfl (HE.get 2 rfl) Tryz.underlying30 rfl (by kernel_rfl)) rfl ?_
 have h9 := HE.selT 3 [0] (by decide) (by simp <;> omega)
 simp only [qqN, qqT] at h9
 exact ge_end rfl ⟨by omega, by omega⟩ hi3 h9
end DGeoD
namespace DAny
open Go.RowKit RJ RP RPC Go.Proofs.YtggmifnblcjdfaaGreatW.PrintWords Fp FpStep MInt MKinds MRead MMake MPut MHeld MOk MVal MValB MSuper MDraw MDraw2 MDraw4 Go.Proofs.YtggmifnblcjdfaaGreat.Sep SepStep AKinds AArr AHole AOk AOkD AXor AStrV AQStripe DRes DInv DEnd DGeo DTurn DDraw DGeoD
def OkA (a : ArrV) : Prop := SmallA a ∧ (-1 ≤ a.gn ∧ a.gn ≤ 6)
theorem Fit.ok {b d : Int} {a : ArrV} (h : Fit b d a) (hd : d ≤ 1000) : OkA a := ⟨h.small (by omega), by have := h.n; omega⟩
theorem c_intB {w0 w : World} {g gc : Nat} {a : ArrV} {B : Value} {bs : List Int} {i h : Int} {L : List Res} {l : List Int} {n : Nat} {cs : Array Value} (hb : Bx w0 w g a (cur gc B i h :: L)) (hB : RK (Kd.int .u8) w0 B bs) (hi : 0 ≤ i ∧ i ≤ bs.length) (hc : cs.toList = nums .i64 l) (hl : l.length = n) (hn : 0 < l.length ∧ l.length ≤ 256) :
  Calls Tryz.prog 55 #[.pointer (some ⟨gc, 0, none⟩), .slice (some ⟨w.heap.size, 0, none⟩) n n] (w.alloc (.cells cs 3 (0, 0))) fun e w' => ∃ (x i' h' : Int), e = .returned (.int .i64 x) ∧ x ∈ l ∧ (0 ≤ i' ∧ i' ≤ bs.length) ∧ Bx w0 w' g a (cur gc B i' h' :: L) := by
 obtain ⟨hh, c1, A2, c2, F1, F2, F3, es, hel, hs⟩ := hb
 have hq := (new_lit hs (g := w.heap.size) rfl 3 cs (l := l) (n := n) hl hc (by omega)).selT 6 [5, 0, 1, 2, 3, 4] (by decide) (by simp <;> omega)
 simp only [qqN, qqT] at hq
 subst hl
 refine (c_l1Int hq hB hi (fun w' hw => O_RK (hw.get 0 rfl)) hn).mono ?_
 rintro e w5 ⟨z, i5, h5, he, hz, hi5, hs5⟩
 have hq2 := hs5.selT 6 [2, 3, 4, 5, 0] (by decide) (by simp <;> omega)
 simp only [qqN, qqT] at hq2
 exact ⟨z, i5, h5, he, hz, hi5, Bx.le hel hq2⟩
def AnR (w0 : World) (gc : Nat) (B : Value) (n : Nat) (L : List Res) (e : Ending) (w' : World) : Prop := ∃ (v : Value) (a' : ArrV) (i' h' : Int), e = .returned v ∧ OkA a' ∧ (0 ≤ i' ∧ i' ≤ n) ∧ Av w0 w' v a' (cur gc B i' h' :: L)
theorem an_end {w0 w' : World} {gc n : Nat} {B : Value} {L : List Res} {i' h' : Int} {a' : ArrV} {v : Value} {e : Ending} (he : e = .returned v) (h1 : OkA a') (h2 : 0 ≤ i' ∧ i' ≤ n) (h3 : Av w0 w' v a' (cur gc B i' h' :: L)) : AnR w0 gc B n L e w' := ⟨v, a', i', h', he, h1, h2, h3⟩
def MdR (w0 : World) (g gc gr : Nat) (B : Value) (n : Nat) (L : List Res) (w' : World) : Prop := ∃ (a' : ArrV) (i' h' : Int), OkA a' ∧ (0 ≤ i' ∧ i' ≤ n) ∧ Bx w0 w' g a' (cur gc B i' h' :: bx gr 34 #[.int .i64 0, .int .i64 0, .int .i64 0, .slice none 0 0, .int .i64 0, .int .i64 0, .int .i64 0, .int .i64 0, .int .i64 0, .slice none 0 0, .int .i64 0, .bool false, .bool false] :: L)
theorem md_end {w0 w' : World} {g gc gr n : Nat} {B : Value} {L : List Res} {i' h' : Int} {a' : ArrV} (h1 : OkA a') (h2 : 0 ≤ i' ∧ i' ≤ n) (h3 : Bx w0 w' g a' (cur gc B i' h' :: bx gr 34 #[.int .i64 0, .int .i64 0, .int .i64 0, .slice none 0 0, .int .i64 0, .int .i64 0, .int .i64 0, .int .i64 0, .int .i64 0, .slice none 0 0, .int .i64 0, .bool false, .bool false] :: L)) : MdR w0 g gc gr B n L w' := ⟨a', i', h', h1, h2, h3⟩
theorem md_endF {w0 w' : World} {g gc gr n m : Nat} {B : Value} {L : List Res} {i' h' : Int} {a a' : ArrV} {hh c1 c2 : Nat} {A2 : Option Addr} {F1 F2 F3 : List Nat} {es : List (Int × Value)} (h1 : OkA a') (h2 : 0 ≤ i' ∧ i' ≤ n) (hel : es.length = a.dirty.length) (hd : a'.dirty = a.dirty) (hm : a'.mems.length = m)
  (h3 : Sep w0 [] w' (bx g 34 (arrC a' (.slice (some ⟨hh, 0, none⟩) m c1) (.slice A2 a.dirty.length c2)) :: rw_ oMem 89 F1 (.slice (some ⟨hh, 0, none⟩) m c1) a'.mems :: rw_ oShl 91 F2 (.slice A2 a.dirty.length c2) es :: da F3 es a.dirty :: cur gc B i' h' :: bx gr 34 #[.int .i64 0, .int .i64 0, .int .i64 0, .slice none 0 0, .int .i64 0, .int .i64 0, .int .i64 0, .int .i64 0, .int .i64 0, .slice none 0 0, .int .i64 0, .bool false, .bool false] :: L)) : MdR w0 g gc gr B n L w' := ⟨a', i', h', h1, h2, Bx.ofF hel hd hm h3⟩
set_option maxHeartbeats 16000000 in
set_option maxRecDepth 100000 in
theorem c_l6Any {w0 w : World} {gc : Nat} {B : Value} {bs : List Int} {i h : Int} {L : List Res} {most : Int} (hs : Sep w0 [] w (cur gc B i h :: L)) (hB : RK (Kd.int .u8) w0 B bs) (hi : 0 ≤ i ∧ i ≤ bs.length) (hm : 0 ≤ most ∧ most ≤ 30) :
  Calls Tryz.prog 49 #[.pointer (some ⟨gc, 0, none⟩), .int .i64 most] w (AnR w0 gc B bs.length L) := by
 have HI := Aside0.mk ((hs.alloc (g := w.heap.size) rfl arrZ 34).perm (List.Perm.swap _ _ _))
 clear hs
 simp only [arrZ] at *
 go_enter Tryz.func49, Tryz.ntmps49
 go_upto_region 2 with (first
  | (go_at_call 93; refine (c_l6Draw HI.out hB hi hm).mono ?_; rintro e w3 ⟨v, a, i3, h3, rfl, hf, hi3, ⟨A1, c1, A2, c2, F1, F2, F3, es, rfl, hel, hq⟩⟩; simp only [arrC] at *; have HF := Aside0.mk hf; have HEL := Aside0.mk hel; have HS3 := Aside0.mk hq; clear hq hel hf)
  | fail)
 obtain ⟨hh, cap9, hv9, _, _⟩ := O_form (show oMem.O 89 w3 F1 (.slice A1 a.mems.length c1) a.mems from HS3.out.get 0 rfl) (by have := HF.out.len; have := HF.out.n; omega)
 obtain rfl := (Value.slice.inj hv9).1
 have hq := HS3.out.alloc (g := w3.heap.size) rfl #[.int .i64 a.id, .int .i64 a.gn, .int .i64 a.gs, .slice (some ⟨hh, 0, none⟩) a.mems.length c1, .int .i64 a.lost, .int .i64 a.built, .int .i64 a.seq, .int .i64 a.tail, .int .i64 a.gen, .slice A2 a.dirty.length c2, .int .i64 a.fuse, .bool a.down, .bool a.broken] 34
 generalize w3.alloc (.cells #[.int .i64 a.id, .int .i64 a.gn, .int .i64 a.gs, .slice (some ⟨hh, 0, none⟩) a.mems.length c1, .int .i64 a.lost, .int .i64 a.built, .int .i64 a.seq, .int .i64 a.tail, .int .i64 a.gen, .slice A2 a.dirty.length c2, .int .i64 a.fuse, .bool a.down, .bool a.broken] 34 (0, 0)) = w4 at *
 generalize w3.heap.size = g at *
 generalize w.heap.size = gr at *
 have HS4 := Aside0.mk hq
 have HOK := Aside0.mk (Fit.ok HF.out (by omega))
 have HML := Aside0.mk (show 3 ≤ a.mems.length ∧ a.mems.length ≤ 5 by have := HF.out.len; have := HF.out.n; omega)
 clear hq hv9 HS3 HI
 have kk := thirteen (HS4.out.get 0 rfl)
 go_upto_block 0 with (first
  | (go_at_call 94; (first
    | (refine (c_belowB HB5.out hB hi5 (by omega)).mono ?_; rintro e w6 ⟨y, i6, h6, rfl, hy0, hy1, hi6, hq⟩; have HB6 := Aside0.mk hq; clear hq; have hy2 := hy1 (by omega); clear hy1)
    | (refine (c_belowB (Bx.le HEL.out HS4.out) hB hi3 (by have := HML.out; omega)).mono ?_; rintro e w5 ⟨k0, i5, h5, rfl, hk0, hk1, hi5, hq⟩; have HB5 := Aside0.mk hq; clear hq; have hk2 := hk1 (by have := HML.out; omega); clear hk1 kk)))
  | fail)
 obtain ⟨k, rfl⟩ := Int.eq_ofNat_of_zero_le hk0
 have hk3 : k < a.mems.length := by omega
 clear HS4 HEL HB5
 obtain ⟨hh, c1, A2, c2, F1, F2, F3, es, hel, hs⟩ := HB6.out
 simp only [arrC] at hs
 have HS := Aside0.mk hs
 have HEL := Aside0.mk hel
 clear hs hel
 have kk := thirteen (HS.out.get 0 rfl)
 have gz := blk_frozen (HS.out.get 0 rfl)
 go_cut [] (fun wx => Aside0 (MdR w0 g gc gr B bs.length L wx))
 case first =>
  by_cases y0 : y = 0
  ·subst y0
   clear hy0 hy2
   go_upto_region 5 with fail
   have hq := HS.out.selT 6 [4, 0, 1, 2, 3, 5] (by decide) (by simp <;> omega)
   simp only [qqN, qqT] at hq
   have HT := Aside0.mk hq.drew
   clear hq kk
   refine wp_region_seqc (fun w' => w'.cell? ⟨g, 3, none⟩ = some (.slice (some ⟨hh, 0, none⟩) a.mems.length c1)) [6] [(0, 2), (2, 2), (3, 2), (1, 1), (4, 0), (5, 2), (6, 0)] (by kernel_rfl) (by kernel_rfl) ?_
   have hS := (thirteen (HT.out.get 1 rfl)).2.2.2.1
   repeat ((first | (refine seqp_pure rfl (fun _ _ _ h => h) (by rfl) (fun w_ => by go_simp; first | done | with_reducible rfl) ?_) | (refine seqp_take hS rfl (fun _ _ _ h => h) (by rfl) (fun w_ hSw => by (try dsimp only at hSw); go_simp; first | done | with_reducible rfl) ?_) | (refine seqp_skip2 rfl (fun _ _ _ h => h) (by rfl) ?_) | (refine seqp_skip1 hS rfl (fun _ _ _ h => h) (by rfl) ?_) | (refine seqp_skip0 rfl (by rfl) ?_)); (try simp only [Act.put, qqP]))
   refine seqp_step rfl (fun K hK => ?_)
   go_simp
   go_at_call 95; refine (c_l2Any HT.out hB hi6).mono ?_; rintro e w7 ⟨u, F7, m, i7, h7, rfl, hm7, hi7, hq⟩
   obtain ⟨B1, d1, B2, d2, B3, d3, rfl⟩ := me_form hq
   have HT7 := Aside0.mk hq
   have HM := Aside0.mk hm7
   clear hq hm7 hS
   have hS := (thirteen (HT7.out.get 2 rfl)).2.2.2.1
   refine hK.out _ _ ⟨fun _ _ => hS, ?_⟩; clear hK K; (try simp only [Act.put, qqP])
   repeat ((first | (refine seqp_pure rfl (fun _ _ _ h => h) (by rfl) (fun w_ => by go_simp; first | done | with_reducible rfl) ?_) | (refine seqp_take hS rfl (fun _ _ _ h => h) (by rfl) (fun w_ hSw => by (try dsimp only at hSw); go_simp; first | done | with_reducible rfl) ?_) | (refine seqp_skip2 rfl (fun _ _ _ h => h) (by rfl) ?_) | (refine seqp_skip1 hS rfl (fun _ _ _ h => h) (by rfl) ?_) | (refine seqp_skip0 rfl (by rfl) ?_)); (try simp only [Act.put, qqP]))
   clear hS
   have hq := HT7.out.selT 7 [0, 2, 3, 4, 5, 1, 6] (by decide) (by simp <;> omega)
   simp only [qqN, qqT] at hq
   have HU := Aside0.mk hq
   clear hq gz
   obtain ⟨x, hx⟩ : ∃ x, a.mems[k]? = some x := ⟨_, List.getElem?_eq_getElem hk3⟩
   obtain ⟨_, _, _, _, _, _, hcell, hfr, hM⟩ := mem_store (HU.out.get 2 rfl) hx
   clear hM hx
   refine seqp_step rfl (fun K hK => ?_)
   go_simp
   refine hK.out _ _ ⟨(fun h => (by cases h)), ?_⟩; clear hK K; (try simp only [Act.put, qqP])
   refine seqp_done ?_
   obtain ⟨w8, F9, hw8, hq⟩ := store_mem HU.out hk3
   rw [hw8]
   have HE := Aside0.mk hq
   clear hq hcell hfr hw8
   go_wp2_with fail
   go_meet
   have hok : OkA { a with mems := a.mems.set k m } := ⟨⟨by have := HOK.out.1.1; simpa using this, fun z hz => by
     rcases List.mem_or_eq_of_mem_set hz with hz | rfl
     ·exact HOK.out.1.2.1 z hz
     ·exact tiny_small HM.out, HOK.out.1.2.2⟩, HOK.out.2⟩
   first | exact ⟨md_endF hok hi7 HEL.out rfl (List.length_set ..) HE.out⟩ | exact ⟨md_endF hok hi7 HEL.out rfl (List.length_set ..) HE.out.drew⟩
  by_cases y1 : y = 1
  ·subst y1
   clear hy0 hy2
   go_wp2_with (first
    | (go_at_call 55; refine (c_intB (l := [-2, -1, 0, 5]) HB6.out hB hi6 (by rfl) (by rfl) (by decide)).mono ?_; rintro e w7 ⟨z, i7, h7, rfl, hz, hi7, hq⟩; clear kk gz HS HEL; obtain ⟨hh, c1, A2, c2, F1, F2, F3, es, hel, hs⟩ := hq; simp only [arrC] at hs; have HS7 := Aside0.mk hs; have HEL7 := Aside0.mk hel; clear hs hel hz; have kk := thirteen (HS7.out.get 0 rfl); have gz := blk_frozen (HS7.out.get 0 rfl))
    | fail)
   go_meet
   have hq := HS7.out.setb 0 rfl 4 (.int .i64 z) rfl
   simp only [qqN] at hq
   exact ⟨md_endF (a' := { a with lost := z }) HOK.out hi7 HEL7.out rfl rfl hq⟩
  by_cases y2 : y = 2
  ·subst y2
   clear hy0 hy2
   go_wp2_with (first
    | (go_at_call 55; refine (c_intB (l := [-1, 1, 9]) HB6.out hB hi6 (by rfl) (by rfl) (by decide)).mono ?_; rintro e w7 ⟨z, i7, h7, rfl, hz, hi7, hq⟩; clear kk gz HS HEL; obtain ⟨hh, c1, A2, c2, F1, F2, F3, es, hel, hs⟩ := hq; simp only [arrC] at hs; have HS7 := Aside0.mk hs; have HEL7 := Aside0.mk hel; clear hs hel hz; have kk := thirteen (HS7.out.get 0 rfl); have gz := blk_frozen (HS7.out.get 0 rfl))
    | fail)
   go_meet
   have hq := HS7.out.setb 0 rfl 5 (.int .i64 z) rfl
   simp only [qqN] at hq
   exact ⟨md_endF (a' := { a with built := z }) HOK.out hi7 HEL7.out rfl rfl hq⟩
  by_cases y3 : y = 3
  ·subst y3
   clear hy0 hy2
   go_wp2_with (first
    | (go_at_call 55; refine (c_intB (l := [-1, 0, 9, 60000]) HB6.out hB hi6 (by rfl) (by rfl) (by decide)).mono ?_; rintro e w7 ⟨z, i7, h7, rfl, hz, hi7, hq⟩; clear kk gz HS HEL; obtain ⟨hh, c1, A2, c2, F1, F2, F3, es, hel, hs⟩ := hq; simp only [arrC] at hs; have HS7 := Aside0.mk hs; have HEL7 := Aside0.mk hel; clear hs hel hz; have kk := thirteen (HS7.out.get 0 rfl); have gz := blk_frozen (HS7.out.get 0 rfl))
    | fail)
   go_meet
   have hq := HS7.out.setb 0 rfl 6 (.int .i64 z) rfl
   simp only [qqN] at hq
   exact ⟨md_endF (a' := { a with seq := z }) HOK.out hi7 HEL7.out rfl rfl hq⟩
  by_cases y4 : y = 4
  ·subst y4
   clear hy0 hy2
   go_wp2_with (first
    | (go_at_call 55; refine (c_intB (l := [-1, 60000, 59990, 60001]) HB6.out hB hi6 (by rfl) (by rfl) (by decide)).mono ?_; rintro e w7 ⟨z, i7, h7, rfl, hz, hi7, hq⟩; clear kk gz HS HEL; obtain ⟨hh, c1, A2, c2, F1, F2, F3, es, hel, hs⟩ := hq; simp only [arrC] at hs; have HS7 := Aside0.mk hs; have HEL7 := Aside0.mk hel; clear hs hel hz; have kk := thirteen (HS7.out.get 0 rfl); have gz := blk_frozen (HS7.out.get 0 rfl))
    | fail)
   go_meet
   have hq := HS7.out.setb 0 rfl 8 (.int .i64 z) rfl
   simp only [qqN] at hq
   exact ⟨md_endF (a' := { a with gen := z }) HOK.out hi7 HEL7.out rfl rfl hq⟩
  by_cases y7 : y = 7
  ·subst y7
   clear hy0 hy2
   go_wp2_with (first
    | (go_at_call 55; refine (c_intB (l := [-2, 0, 1, 2, 5, 1001]) HB6.out hB hi6 (by rfl) (by rfl) (by decide)).mono ?_; rintro e w7 ⟨z, i7, h7, rfl, hz, hi7, hq⟩; clear kk gz HS HEL; obtain ⟨hh, c1, A2, c2, F1, F2, F3, es, hel, hs⟩ := hq; simp only [arrC] at hs; have HS7 := Aside0.mk hs; have HEL7 := Aside0.mk hel; clear hs hel hz; have kk := thirteen (HS7.out.get 0 rfl); have gz := blk_frozen (HS7.out.get 0 rfl))
    | fail)
   go_meet
   have hq := HS7.out.setb 0 rfl 10 (.int .i64 z) rfl
   simp only [qqN] at hq
   exact ⟨md_endF (a' := { a with fuse := z }) HOK.out hi7 HEL7.out rfl rfl hq⟩
  by_cases y6 : y = 6
  ·subst y6
   clear hy0 hy2
   go_wp2_with fail
   go_meet
   have hq := HS.out.setb 0 rfl 12 (.bool true) rfl
   simp only [qqN] at hq
   exact ⟨md_endF (a' := { a with broken := true }) HOK.out hi6 HEL.out rfl rfl hq⟩
  by_cases y8 : y = 8
  ·subst y8
   clear hy0 hy2
   go_wp2_with fail
   go_meet
   have hq := HS.out.setb 0 rfl 11 (.bool true) rfl
   simp only [qqN] at hq
   exact ⟨md_endF (a' := { a with down := true }) HOK.out hi6 HEL.out rfl rfl hq⟩
  by_cases y5 : y = 5
  ·subst y5
   clear hy0 hy2
   go_upto_region 15 with fail
   have hq := HS.out.selT 6 [4, 0, 1, 2, 3, 5] (by decide) (by simp <;> omega)
   simp only [qqN, qqT] at hq
   have HT := Aside0.mk hq.drew
   clear hq kk
   refine wp_region_seqc (fun w' => w'.cell? ⟨g, 9, none⟩ = some (.slice A2 a.dirty.length c2)) [11] [(0, 2), (2, 2), (5, 2), (1, 1), (3, 0), (4, 2), (6, 0), (7, 2), (8, 0), (9, 0), (10, 2), (11, 0)] (by kernel_rfl) (by kernel_rfl) ?_
   have hS := (thirteen (HT.out.get 1 rfl)).2.2.2.2.2.2.2.2.2.1
   repeat ((first | (refine seqp_pure rfl (fun _ _ _ h => h) (by rfl) (fun w_ => by go_simp; first | done | with_reducible rfl) ?_) | (refine seqp_take hS rfl (fun _ _ _ h => h) (by rfl) (fun w_ hSw => by (try dsimp only at hSw); go_simp; first | done | with_reducible rfl) ?_) | (refine seqp_skip2 rfl (fun _ _ _ h => h) (by rfl) ?_) | (refine seqp_skip1 hS rfl (fun _ _ _ h => h) (by rfl) ?_) | (refine seqp_skip0 rfl (by rfl) ?_)); (try simp only [Act.put, qqP]))
   refine seqp_step rfl (fun K hK => ?_)
   go_simp
   go_at_call 94; refine (c_l1Below HT.out hB hi6 (by omega)).mono ?_; rintro e w7 ⟨z, i7, h7, rfl, hz0, hz1, hi7, hq⟩
   have HT7 := Aside0.mk hq
   have hz2 := hz1 (by omega)
   have hwz : IntKind.i64.wrap (z - 1) = z - 1 := IntWalk.i64_in _ (by omega)
   clear hq hz1 hS
   have hS := (thirteen (HT7.out.get 1 rfl)).2.2.2.2.2.2.2.2.2.1
   refine hK.out _ _ ⟨fun _ _ => hS, ?_⟩; clear hK K; (try simp only [Act.put, qqP])
   repeat ((first | (refine seqp_pure rfl (fun _ _ _ h => h) (by rfl) (fun w_ => by go_simp; first | done | with_reducible rfl) ?_) | (refine seqp_take hS rfl (fun _ _ _ h => h) (by rfl) (fun w_ hSw => by (try dsimp only at hSw); go_simp; first | done | with_reducible rfl) ?_) | (refine seqp_skip2 rfl (fun _ _ _ h => h) (by rfl) ?_) | (refine seqp_skip1 hS rfl (fun _ _ _ h => h) (by rfl) ?_) | (refine seqp_skip0 rfl (by rfl) ?_)); (try simp only [Act.put, qqP]))
   refine seqp_step rfl (fun K hK => ?_)
   go_simp
   go_at_call 54; refine (c_l1Any HT7.out hB hi7).mono ?_; rintro e w8 ⟨A8, c8, F8, xs, i8, h8, rfl, hx8, hi8, hq⟩
   have HT8 := Aside0.mk hq
   clear hq hS
   have hS := (thirteen (HT8.out.get 2 rfl)).2.2.2.2.2.2.2.2.2.1
   refine hK.out _ _ ⟨fun _ _ => hS, ?_⟩; clear hK K; (try simp only [Act.put, qqP])
   repeat ((first | (refine seqp_pure rfl (fun _ _ _ h => h) (by rfl) (fun w_ => by go_simp; first | done | with_reducible rfl) ?_) | (refine seqp_take hS rfl (fun _ _ _ h => h) (by rfl) (fun w_ hSw => by (try dsimp only at hSw); go_simp; first | done | with_reducible rfl) ?_) | (refine seqp_skip2 rfl (fun _ _ _ h => h) (by rfl) ?_) | (refine seqp_skip1 hS rfl (fun _ _ _ h => h) (by rfl) ?_) | (refine seqp_skip0 rfl (by rfl) ?_)); (try simp only [Act.put, qqP]))
   refine seqp_step rfl (fun K hK => ?_)
   go_simp
   refine hK.out _ _ ⟨fun _ _ => cell_alloc hS _, ?_⟩; clear hK K; (try simp only [Act.put, qqP])
   refine seqp_step rfl (fun K hK => ?_)
   have hq := HT8.out.selT 7 [4, 2, 3, 5, 1, 0, 6] (by decide) (by simp <;> omega)
   simp only [qqN, qqT] at hq
   refine step_app0 (d := oShl) (y := (z - 1, .slice A8 xs.length c8)) hq 0 rfl _ _ 32 (.agg #[.int .i64 0, .slice none 0 0]) 32 (by rfl) Tryz.underlying32 (by kernel_rfl) rfl (by decide) (by decide) [.int .i64 (z - 1), .slice A8 xs.length c8] (oShl_M rfl) (by rfl) (by rfl) (by rfl) (n := a.dirty.length) HEL.out (by have := HOK.out.1.2.2.1; omega) ?_
   intro g9 cap9 w9 F9 hq9
   have HT9 := Aside0.mk hq9
   clear hq9 hq hS
   have hS := (thirteen (HT9.out.get 1 rfl)).2.2.2.2.2.2.2.2.2.1
   refine hK.out _ _ ⟨fun _ _ => hS, ?_⟩; clear hK K; (try simp only [Act.put, qqP])
   repeat ((first | (refine seqp_pure rfl (fun _ _ _ h => h) (by rfl) (fun w_ => by go_simp; first | done | with_reducible rfl) ?_) | (refine seqp_take hS rfl (fun _ _ _ h => h) (by rfl) (fun w_ hSw => by (try dsimp only at hSw); go_simp; first | done | with_reducible rfl) ?_) | (refine seqp_skip2 rfl (fun _ _ _ h => h) (by rfl) ?_) | (refine seqp_skip1 hS rfl (fun _ _ _ h => h) (by rfl) ?_) | (refine seqp_skip0 rfl (by rfl) ?_)); (try simp only [Act.put, qqP]))
   clear hS gz
   have kk := thirteen (HT9.out.get 1 rfl)
   have gz := blk_frozen (HT9.out.get 1 rfl)
   refine seqp_step rfl (fun K hK => ?_)
   go_simp
   refine hK.out _ _ ⟨(fun h => (by cases h)), ?_⟩; clear hK K; (try simp only [Act.put, qqP])
   refine seqp_done ?_
   have hq := HT9.out.setb 1 rfl 9 (.slice (some ⟨g9, 0, none⟩) (a.dirty.length + 1) cap9) rfl
   simp only [qqN] at hq
   have HE := Aside0.mk hq
   have hda := da_add (s := z - 1) (HE.out.lies 3 rfl) (HE.out.lies 5 rfl)
   have hq2 := HE.out.selT 7 [3, 5, 1, 2, 0, 4, 6] (by decide) (by simp <;> omega)
   simp only [qqN, qqT] at hq2
   have hq3 := Sep.join (P := fun w => Dat w (es ++ [(z - 1, Value.slice A8 xs.length c8)]) (a.dirty ++ [(z - 1, xs)])) hq2 hda
   have hq4 := hq3.selT 6 [1, 2, 3, 0, 4, 5] (by decide) (by simp <;> omega)
   simp only [qqN, qqT] at hq4
   have hln : a.dirty.length + 1 = (a.dirty ++ [(z - 1, xs)]).length := by simp
   rw [hln] at hq4
   have HU := Aside0.mk hq4
   have HLN := Aside0.mk (show (es ++ [(z - 1, Value.slice A8 xs.length c8)]).length = (a.dirty ++ [(z - 1, xs)]).length by simp [HEL.out])
   have HLM := Aside0.mk hln
   clear hq hq2 hq3 hq4 hda kk gz hln
   go_wp2_with fail
   go_meet
   rw [HLM.out]
   have hok : OkA { a with dirty := a.dirty ++ [(z - 1, xs)] } := ⟨⟨HOK.out.1.1, HOK.out.1.2.1, by have := HF.out.dl; simp; omega, fun q hq => by
     rcases List.mem_append.1 hq with hq | hq
     ·exact HOK.out.1.2.2.2 q hq
     ·rw [List.mem_singleton] at hq; subst hq; show xs.length ≤ 16777216; omega⟩, HOK.out.2⟩
   first | exact ⟨md_end hok hi8 ⟨hh, c1, some ⟨g9, 0, none⟩, cap9, F1, F9, _, _, HLN.out, HU.out⟩⟩ | exact ⟨md_end hok hi8 ⟨hh, c1, some ⟨g9, 0, none⟩, cap9, F1, F9, _, _, HLN.out, HU.out.drew⟩⟩
  by_cases y9 : y = 9
  ·subst y9
   clear hy0 hy2
   go_upto_region 23 with fail
   obtain ⟨y, hy⟩ : ∃ y, a.mems[k]? = some y := ⟨_, List.getElem?_eq_getElem hk3⟩
   have HDY := Aside0.mk (HF.out.dk y (List.mem_of_getElem? hy))
   have hsl : 7 ≤ y.secs.length := by have h1 := HDY.out.2; have h2 := HF.out.n; omega
   have hq := HS.out.selT 6 [1, 4, 0, 2, 3, 5] (by decide) (by simp <;> omega)
   simp only [qqN, qqT] at hq
   obtain ⟨_, B1, d1, B2, d2, B3, d3, G1, G2, G3, R, hq2⟩ := Sep.take_mem hq hy
   obtain ⟨gs, capS, hB1, _, _⟩ := O_form (show oSec.O 28 w6 G1 (.slice B1 y.secs.length d1) y.secs from hq2.get 0 rfl) (by omega)
   obtain rfl := (Value.slice.inj hB1).1
   have hq3 := hq2.selT 9 [4, 0, 1, 2, 3, 5, 6, 7, 8] (by decide) (by simp <;> omega)
   simp only [qqN, qqT] at hq3
   have HT := Aside0.mk hq3.drew
   have k0' : (0 : Int) ≤ (k : Int) := by omega
   have k1' : (k : Int) < (a.mems.length : Int) := by omega
   have s6 : (6 : Int) < (y.secs.length : Int) := by omega
   clear hq hq2 hq3 hB1 hy kk gz
   refine wp_region_seqc (fun w' => (w'.cell? ⟨g, 2, none⟩ = some (.int .i64 a.gs) ∧ w'.cell? ⟨g, 3, none⟩ = some (.slice (some ⟨hh, 0, none⟩) a.mems.length c1)) ∧ (w'.cell? ⟨hh, k * 4, none⟩ = some (.slice (some ⟨gs, 0, none⟩) y.secs.length d1) ∧ w'.cell? ⟨hh, k * 4 + 1, none⟩ = some (.slice B2 y.cache.length d2) ∧ w'.cell? ⟨hh, k * 4 + 2, none⟩ = some (.bool y.failed) ∧ w'.cell? ⟨hh, k * 4 + 3, none⟩ = some (.slice B3 y.bad.length d3))) [10] [(0, 2), (2, 2), (7, 2), (1, 1), (3, 2), (4, 2), (5, 1), (6, 0), (8, 0), (9, 2), (10, 0)] (by kernel_rfl) (by kernel_rfl) ?_
   have hS := hole_cells (HT.out.get 5 rfl) (HT.out.get 4 rfl)
   repeat ((first | (refine seqp_pure rfl (fun _ _ _ h => h) (by rfl) (fun w_ => by go_simp; first | done | with_reducible rfl) ?_) | (refine seqp_take hS rfl (fun _ _ _ h => h) (by rfl) (fun w_ hSw => by (try dsimp only at hSw); go_simp; first | done | with_reducible rfl) ?_) | (refine seqp_skip2 rfl (fun _ _ _ h => h) (by rfl) ?_) | (refine seqp_skip1 hS rfl (fun _ _ _ h => h) (by rfl) ?_) | (refine seqp_skip0 rfl (by rfl) ?_)); (try simp only [Act.put, qqP]))
   refine seqp_step rfl (fun K hK => ?_)
   go_simp
   go_at_call 97; refine (c_specDataAt _ _).mono ?_; rw [show dataV 0 = 6 from rfl]; rintro e w7 ⟨rfl, hdr⟩
   have HT7 := Aside0.mk (HT.out.dr hdr)
   clear hdr
   replace hS := hole_cells (HT7.out.get 5 rfl) (HT7.out.get 4 rfl)
   refine hK.out _ _ ⟨fun _ _ => hS, ?_⟩; clear hK K; (try simp only [Act.put, qqP])
   refine seqp_step rfl (fun K hK => ?_)
   go_simp
   go_at_call 96; refine (c_l1Sec HT7.out hB hi6).mono ?_; rintro e w8 ⟨A8, c8, F8, xs, i8, h8, rfl, hx8, hi8, hq⟩
   have HT8 := Aside0.mk hq
   clear hq
   replace hS := hole_cells (HT8.out.get 6 rfl) (HT8.out.get 5 rfl)
   refine hK.out _ _ ⟨fun _ _ => hS, ?_⟩; clear hK K; (try simp only [Act.put, qqP])
   repeat ((first | (refine seqp_pure rfl (fun _ _ _ h => h) (by rfl) (fun w_ => by go_simp; first | done | with_reducible rfl) ?_) | (refine seqp_take hS rfl (fun _ _ _ h => h) (by rfl) (fun w_ hSw => by (try dsimp only at hSw); go_simp; first | done | with_reducible rfl) ?_) | (refine seqp_skip2 rfl (fun _ _ _ h => h) (by rfl) ?_) | (refine seqp_skip1 hS rfl (fun _ _ _ h => h) (by rfl) ?_) | (refine seqp_skip0 rfl (by rfl) ?_)); (try simp only [Act.put, qqP]))
   clear hS
   obtain ⟨uu, cc1, cc2⟩ := O_cells (d := oSec) (i := 6) (t := 0) (HT8.out.get 2 rfl) (by omega) (by decide)
   simp only [show oSec.sz = 1 from rfl, Nat.mul_one, Nat.add_zero] at cc1 cc2
   have HU := Aside0.mk (show oInt.O 3 w8 F8 (.slice A8 xs.length c8) xs from HT8.out.get 0 rfl)
   refine seqp_step rfl (fun K hK => ?_)
   go_simp
   refine hK.out _ _ ⟨(fun h => (by cases h)), ?_⟩; clear hK K; (try simp only [Act.put, qqP])
   refine seqp_done ?_
   obtain ⟨F', hput⟩ := Sep.put (d := oSec) (i := 6) (y := xs) (us := [.slice A8 xs.length c8]) (HT8.out.selT 10 [2, 0, 3, 4, 5, 6, 7, 8, 1, 9] (by decide) (by simp <;> omega)) (by omega) ⟨_, rfl, HU.out⟩
   simp only [qqN, qqT] at hput
   obtain ⟨F9, hq2⟩ := Sep.put_mem (⟨y.secs.set 6 xs, y.cache, y.failed, y.bad⟩ : MemV) hput
   have hq3 := hq2.selT 6 [1, 0, 2, 3, 4, 5] (by decide) (by simp <;> omega)
   simp only [qqN, qqT] at hq3
   have HY := Aside0.mk (show Sep w0 [] (w8.setCell ⟨gs, 6, none⟩ (.slice A8 xs.length c8)) _ from hq3)
   clear hput hq2 hq3 HT8 HT7 HT cc1 cc2
   go_wp2_with fail
   go_meet
   have hok : OkA { a with mems := a.mems.set k ⟨y.secs.set 6 xs, y.cache, y.failed, y.bad⟩ } := ⟨⟨by have := HOK.out.1.1; simpa using this, fun z hz => by
     rcases List.mem_or_eq_of_mem_set hz with hz | rfl
     ·exact HOK.out.1.2.1 z hz
     ·exact ⟨by simpa using HDY.out.1.1, small_set HDY.out.1.2.1 (by omega), HDY.out.1.2.2⟩, HOK.out.1.2.2⟩, HOK.out.2⟩
   first | exact ⟨md_endF hok hi8 HEL.out rfl (List.length_set ..) HY.out⟩ | exact ⟨md_endF hok hi8 HEL.out rfl (List.length_set ..) HY.out.drew⟩
  by_cases y10 : y = 10
  ·subst y10
   clear hy0 hy2
   have hq := HS.out.selT 6 [4, 0, 1, 2, 3, 5] (by decide) (by simp <;> omega)
   simp only [qqN, qqT] at hq
   have HT := Aside0.mk hq
   clear hq kk gz
   go_wp2_with (first
    | (go_at_call 98; refine (c_l3Any HT.out hB hi6).mono ?_; rintro e w7 ⟨N, st, i7, h7, rfl, hN, hi7, hq⟩; have HT7 := Aside0.mk hq; clear hq; have kk := thirteen (HT7.out.get 1 rfl); have gz := blk_frozen (HT7.out.get 1 rfl))
    | fail)
   go_meet
   have hq := HT7.out.selT 6 [1, 2, 3, 4, 0, 5] (by decide) (by simp <;> omega)
   simp only [qqN, qqT] at hq
   have hq2 := (hq.setb 0 rfl 1 (.int .i64 N) rfl).setb 0 rfl 2 (.int .i64 st) rfl
   simp only [qqN] at hq2
   have hok : OkA { a with gn := N, gs := st } := ⟨HOK.out.1, hN⟩
   exact ⟨md_endF hok hi7 HEL.out rfl rfl hq2⟩
  go_wp2_with fail
  go_meet
  exact ⟨md_endF HOK.out hi6 HEL.out rfl rfl HS.out⟩
 case rest =>
  obtain ⟨a', i', h', hok, hi', hb'⟩ := hcut.out
  clear hcut HB6 HS HEL kk gz HF HOK
  obtain ⟨hh, c1, A2, c2, F1, F2, F3, es, hel, hs⟩ := hb'
  simp only [arrC] at hs
  have HS := Aside0.mk hs
  have HEL := Aside0.mk hel
  clear hs hel
  have kk := thirteen (HS.out.get 0 rfl)
  have zz := thirteen (HS.out.get 5 rfl)
  have gz := blk_frozen (HS.out.get 5 rfl)
  go_wp2
  have HE := Sep.box13 HS.out 5 rfl (.int .i64 a'.id) (.int .i64 a'.gn) (.int .i64 a'.gs) (.slice (some ⟨hh, 0, none⟩) a'.mems.length c1) (.int .i64 a'.lost) (.int .i64 a'.built) (.int .i64 a'.seq) (.int .i64 a'.tail) (.int .i64 a'.gen) (.slice A2 a'.dirty.length c2) (.int .i64 a'.fuse) (.bool a'.down) (.bool a'.broken)
  refine bodyPost_ret (results_cell_row rfl _ _ gr 34 #[.int .i64 a'.id, .int .i64 a'.gn, .int .i64 a'.gs, .slice (some ⟨hh, 0, none⟩) a'.mems.length c1, .int .i64 a'.lost, .int .i64 a'.built, .int .i64 a'.seq, .int .i64 a'.tail, .int .i64 a'.gen, .slice A2 a'.dirty.length c2, .int .i64 a'.fuse, .bool a'.down, .bool a'.broken] (0, 0) _ rfl (HE.get 5 rfl) Tryz.underlying34 rfl (by kernel_rfl)) rfl ?_
  have hq := HE.selT 6 [1, 2, 3, 4] (by decide) (by simp <;> omega)
  simp only [qqN, qqT] at hq
  exact an_end rfl hok hi' ⟨_, c1, A2, c2, F1, F2, F3, es, rfl, HEL.out, hq⟩
end DAny
namespace DSync
open Go.RowKit RJ RP RPC Go.Proofs.YtggmifnblcjdfaaGreatW.PrintWords Fp FpStep MInt MKinds MRead MMake MPut MHeld MOk MVal MValB MSuper MDraw MDraw2 MDraw4 Go.Proofs.YtggmifnblcjdfaaGreat.Sep SepStep AKinds AArr AHole AOk AOkD AXor AStrV AQStripe DRes DInv DEnd DGeo DTurn DDraw DAny
set_option maxHeartbeats 1000000 in
theorem c_l1Size {w : World} {B : Value} {bs : List Int} {m : Int} (hB : RK (Kd.int .u8) w B bs) (hl : bs.length ≤ 16777216) (hm : 3 ≤ m ∧ m ≤ 30) :
  Calls Tryz.prog 50 #[B, .int .i64 m] w fun e w' => (∃ x : Int, e = .returned (.int .i64 x) ∧ 0 ≤ x ∧ x ≤ 30) ∧ ∃ n, w' = w.drewN n := by
 obtain ⟨A, c, rfl, _, _⟩ := hB
 have ht : (bs.length : Int).tdiv 12 = (bs.length : Int) / 12 := Int.tdiv_eq_ediv_of_nonneg (by omega)
 have hq0 : 0 ≤ (bs.length : Int) / 12 := by omega
 have hq1 : (bs.length : Int) / 12 ≤ 1500000 := by omega
 have hw1 : wrap64 ((bs.length : Int).tdiv 12) = (bs.length : Int) / 12 := by rw [ht]; exact IntWalk.wrap64_in _ (by omega)
 have hw2 : wrap64 ((bs.length : Int) / 12) = (bs.length : Int) / 12 := IntWalk.wrap64_in _ (by omega)
 have hw3 : IntKind.i64.wrap (3 + (bs.length : Int) / 12) = 3 + (bs.length : Int) / 12 := IntWalk.i64_in _ (by omega)
 by_cases hg : m < 3 + (bs.length : Int) / 12
 ·have hd : decide (m < 3 + (bs.length : Int) / 12) = true := decide_eq_true hg
  go_enter Tryz.func50, Tryz.ntmps50
  go_wp2
  go_ret
  exact ⟨⟨_, rfl, by omega, by omega⟩, 0, rfl⟩
 ·have hd : decide (m < 3 + (bs.length : Int) / 12) = false := decide_eq_false hg
  go_enter Tryz.func50, Tryz.ntmps50
  go_wp2
  go_ret
  exact ⟨⟨_, rfl, by omega, by omega⟩, 0, rfl⟩
set_option maxHeartbeats 4000000 in
set_option maxRecDepth 100000 in
theorem c_l7Fuse {w0 w : World} {gc : Nat} {B v : Value} {bs : List Int} {a : ArrV} {i h : Int} {L : List Res} (hv : Av w0 w v a (cur gc B i h :: L)) (hok : OkA a) (hB : RK (Kd.int .u8) w0 B bs) (hi : 0 ≤ i ∧ i ≤ bs.length) :
  Calls Tryz.prog 51 #[.pointer (some ⟨gc, 0, none⟩), v] w (AnR w0 gc B bs.length L) := by
 obtain ⟨A1, c1, A2, c2, F1, F2, F3, es, rfl, hel, hs⟩ := hv
 have HOK := Aside0.mk hok
 have HEL := Aside0.mk hel
 have hq := ((hs.alloc (g := w.heap.size) rfl #[.int .i64 a.id, .int .i64 a.gn, .int .i64 a.gs, .slice A1 a.mems.length c1, .int .i64 a.lost, .int .i64 a.built, .int .i64 a.seq, .int .i64 a.tail, .int .i64 a.gen, .slice A2 a.dirty.length c2, .int .i64 a.fuse, .bool a.down, .bool a.broken] 34).alloc (g := w.heap.size + 1) (by simp) #[.int .i64 0, .int .i64 0, .int .i64 0, .slice none 0 0, .int .i64 0, .int .i64 0, .int .i64 0, .int .i64 0, .int .i64 0, .slice none 0 0, .int .i64 0, .bool false, .bool false] 34).selT 6 [5, 1, 0, 2, 3, 4] (by decide) (by simp <;> omega)
 simp only [qqN, qqT] at hq
 have HI := Aside0.mk hq
 clear hs hel hok hq
 simp only [arrC] at *
 obtain ⟨fz, hfz⟩ : ∃ fz, a.fuse = fz := ⟨_, rfl⟩
 have HFZ := Aside0.mk hfz
 rw [hfz] at HI ⊢
 clear hfz
 go_enter Tryz.func51, Tryz.ntmps51
 by_cases hf : fz = -1
 ·subst hf
  go_wp2_with (first
   | (go_at_call 94; refine (c_l1Below HS1.out hB hi1 (by omega)).mono ?_; rintro e w2 ⟨z, i2, h2, rfl, _, _, hi2, hq⟩; have hq2 := hq.setb 1 rfl 10 (.int .i64 z) rfl; simp only [qqN] at hq2; have HS2 := Aside0.mk hq2; have HQ := Aside0.mk hq; clear hq hq2 kk gk zz gz; have kk := thirteen (HQ.out.get 1 rfl); have gk := blk_frozen (HQ.out.get 1 rfl); have zz := thirteen (HQ.out.get 2 rfl); have gz := blk_frozen (HQ.out.get 2 rfl); have hne := HQ.out.neq 1 2 rfl rfl (by decide))
   | (go_at_call 53; refine (c_l1Once HI.out hB hi (by omega)).mono ?_; rintro e w1 ⟨y, i1, h1, rfl, hi1, hq⟩; cases y <;> (have HS1 := Aside0.mk hq; clear hq; have kk := thirteen (HS1.out.get 1 rfl); have gk := blk_frozen (HS1.out.get 1 rfl); have zz := thirteen (HS1.out.get 2 rfl); have gz := blk_frozen (HS1.out.get 2 rfl)))
   | fail)
  ·skip
   have HE := Sep.box13 HS1.out 2 rfl (.int .i64 a.id) (.int .i64 a.gn) (.int .i64 a.gs) (.slice A1 a.mems.length c1) (.int .i64 a.lost) (.int .i64 a.built) (.int .i64 a.seq) (.int .i64 a.tail) (.int .i64 a.gen) (.slice A2 a.dirty.length c2) (.int .i64 (-1)) (.bool a.down) (.bool a.broken)
   refine bodyPost_ret (results_cell_row rfl _ _ (w.heap.size + 1) 34 #[.int .i64 a.id, .int .i64 a.gn, .int .i64 a.gs, .slice A1 a.mems.length c1, .int .i64 a.lost, .int .i64 a.built, .int .i64 a.seq, .int .i64 a.tail, .int .i64 a.gen, .slice A2 a.dirty.length c2, .int .i64 (-1), .bool a.down, .bool a.broken] (0, 0) _ rfl (HE.get 2 rfl) Tryz.underlying34 rfl (by kernel_rfl)) rfl ?_
   have hq := HE.selT 6 [3, 4, 5, 0] (by decide) (by simp <;> omega)
   simp only [qqN, qqT] at hq
   exact an_end (a' := { a with fuse := (-1) }) rfl HOK.out hi1 ⟨A1, c1, A2, c2, F1, F2, F3, es, rfl, HEL.out, hq⟩
  ·skip
   have HE := Sep.box13 HS2.out 2 rfl (.int .i64 a.id) (.int .i64 a.gn) (.int .i64 a.gs) (.slice A1 a.mems.length c1) (.int .i64 a.lost) (.int .i64 a.built) (.int .i64 a.seq) (.int .i64 a.tail) (.int .i64 a.gen) (.slice A2 a.dirty.length c2) (.int .i64 z) (.bool a.down) (.bool a.broken)
   refine bodyPost_ret (results_cell_row rfl _ _ (w.heap.size + 1) 34 #[.int .i64 a.id, .int .i64 a.gn, .int .i64 a.gs, .slice A1 a.mems.length c1, .int .i64 a.lost, .int .i64 a.built, .int .i64 a.seq, .int .i64 a.tail, .int .i64 a.gen, .slice A2 a.dirty.length c2, .int .i64 z, .bool a.down, .bool a.broken] (0, 0) _ rfl (HE.get 2 rfl) Tryz.underlying34 rfl (by kernel_rfl)) rfl ?_
   have hq := HE.selT 6 [3, 4, 5, 0] (by decide) (by simp <;> omega)
   simp only [qqN, qqT] at hq
   exact an_end (a' := { a with fuse := z }) rfl HOK.out hi2 ⟨A1, c1, A2, c2, F1, F2, F3, es, rfl, HEL.out, hq⟩
 ·have hfb : (fz == -1) = false := by simp [hf]
  go_wp2_with (first
   | (go_at_call 53; refine (c_l1Once HI.out hB hi (by omega)).mono ?_; rintro e w1 ⟨y, i1, h1, rfl, hi1, hq⟩; cases y <;> (have HS1 := Aside0.mk hq; clear hq; have kk := thirteen (HS1.out.get 1 rfl); have gk := blk_frozen (HS1.out.get 1 rfl); have zz := thirteen (HS1.out.get 2 rfl); have gz := blk_frozen (HS1.out.get 2 rfl)))
   | fail)
  all_goals
  have HE := Sep.box13 HS1.out 2 rfl (.int .i64 a.id) (.int .i64 a.gn) (.int .i64 a.gs) (.slice A1 a.mems.length c1) (.int .i64 a.lost) (.int .i64 a.built) (.int .i64 a.seq) (.int .i64 a.tail) (.int .i64 a.gen) (.slice A2 a.dirty.length c2) (.int .i64 fz) (.bool a.down) (.bool a.broken)
  refine bodyPost_ret (results_cell_row rfl _ _ (w.heap.size + 1) 34 #[.int .i64 a.id, .int .i64 a.gn, .int .i64 a.gs, .slice A1 a.mems.length c1, .int .i64 a.lost, .int .i64 a.built, .int .i64 a.seq, .int .i64 a.tail, .int .i64 a.gen, .slice A2 a.dirty.length c2, .int .i64 fz, .bool a.down, .bool a.broken] (0, 0) _ rfl (HE.get 2 rfl) Tryz.underlying34 rfl (by kernel_rfl)) rfl ?_
  have hq := HE.selT 6 [3, 4, 5, 0] (by decide) (by simp <;> omega)
  simp only [qqN, qqT] at hq
  exact an_end (a' := { a with fuse := fz }) rfl HOK.out hi1 ⟨A1, c1, A2, c2, F1, F2, F3, es, rfl, HEL.out, hq⟩
def SoR (w0 : World) (L : List Res) (g : Nat) (B : Value) (n : Nat) (e : Ending) (w' : World) : Prop := ∃ (A : Option Addr) (c : Nat) (F : List Nat) (xs : List Int) (i' h' : Int), e = .returned (.slice A xs.length c) ∧ xs.length ≤ 13 ∧ (0 ≤ i' ∧ i' ≤ n) ∧ Sep w0 [] w' (rw_ oInt 3 F (.slice A xs.length c) xs :: cur g B i' h' :: L)
theorem so_end {w0 w' : World} {L : List Res} {g n c : Nat} {B : Value} {A : Option Addr} {F : List Nat} {xs : List Int} {i' h' : Int} {e : Ending} (he : e = .returned (.slice A xs.length c)) (hx : xs.length ≤ 13) (hi : 0 ≤ i' ∧ i' ≤ n) (hs : Sep w0 [] w' (rw_ oInt 3 F (.slice A xs.length c) xs :: cur g B i' h' :: L)) : SoR w0 L g B n e w' := ⟨A, c, F, xs, i', h', he, hx, hi, hs⟩
set_option maxHeartbeats 2000000 in
theorem c_l7Some {w0 w : World} {L : List Res} {g : Nat} {B : Value} {bs : List Int} {i h n : Int} (hs : Sep w0 [] w (cur g B i h :: L)) (hB : RK (Kd.int .u8) w0 B bs) (hi : 0 ≤ i ∧ i ≤ bs.length) (hn : n ≤ 10) :
  Calls Tryz.prog 52 #[.pointer (some ⟨g, 0, none⟩), .int .i64 n] w (SoR w0 L g B bs.length) := by
 have HI := Aside0.mk (hs.lit (g := w.heap.size) rfl oInt 3)
 clear hs
 go_enter Tryz.func52, Tryz.ntmps52
 go_wp2
 go_loopw [5, 6] (fun v5 v6 wr => ∃ (k : Nat) (A : Option Addr) (c : Nat) (F : List Nat) (xs : List Int) (i' h' : Int), v6 = .int .i64 k ∧ v5 = .slice A xs.length c ∧ (xs.length = k ∧ k ≤ 10) ∧ (0 ≤ i' ∧ i' ≤ bs.length) ∧ Aside0 (Sep w0 [] wr (rw_ oInt 3 F (.slice A xs.length c) xs :: cur g B i' h' :: L))) (fun _ v6 _ => 11 - (intOf v6).toNat)
 case atStart => exact ⟨0, _, _, _, [], i, h, rfl, rfl, ⟨rfl, by omega⟩, hi, HI⟩
 case round =>
  clear HI
  obtain ⟨k, A, c, F, xs, i', h', rfl, rfl, ⟨hxl, hk⟩, hi', HR⟩ := hrel
  have hxm : xs.length ≤ 10 := by omega
  have HXL := Aside0.mk hxl
  clear hxl
  by_cases hlt : (k : Int) < n
  ·go_wp2_with (first
    | (go_at_call 99; refine (c_l1Draw (HR.out.perm (List.Perm.swap _ _ _)) hB hi').mono ?_; rintro e w2 ⟨y, i2, h2, rfl, _, hi2, hq⟩; have HS2 := Aside0.mk (hq.perm (List.Perm.swap _ _ _)); clear hq)
    | (at_builtin; refine app_one0 (d := oInt) (y := y) HS2.out rfl _ _ 28 (.int .i64 0) 8 (by rfl) Tryz.underlying28 (by kernel_rfl) rfl (by decide) (by decide) [.int .i64 y] ⟨rfl, rfl⟩ (by rfl) (by rfl) rfl (n := xs.length) rfl (by omega) ?_; intro A7 c7 w7 F7 hs7; have HS7 := Aside0.mk hs7; clear hs7)
    | fail)
   go_roundw
   case rel => exact ⟨k + 1, A7, c7, F7, xs ++ [y], i2, h2, by go_num, by simp, ⟨by simp [HXL.out], by omega⟩, hi2, ⟨by simpa using HS7.out⟩⟩
   case measure => simp [intOf]; omega
  ·go_wp2
   go_ret
   exact so_end rfl (by omega) hi' HR.out
def ArD (w : World) (e : Ending) (w' : World) : Prop := ∃ (v : Value) (a : ArrV), e = .returned v ∧ OkA a ∧ Av w w' v a []
theorem ar_d {w w' : World} {v : Value} {a : ArrV} {e : Ending} (he : e = .returned v) (h1 : OkA a) (h2 : Av w w' v a []) : ArD w e w' := ⟨v, a, he, h1, h2⟩
set_option maxHeartbeats 4000000 in
set_option maxRecDepth 100000 in
theorem c_DrawSync {w : World} {B : Value} {bs : List Int} (hB : RK (Kd.int .u8) w B bs) (hl : bs.length ≤ 16777216) :
  Calls Tryz.prog 17 #[B] w (ArD w) := by
 have H0 := Aside0.mk ((Sep.start w []).alloc (g := w.heap.size) rfl #[.int .i64 0, .int .i64 0, .int .i64 0, .slice none 0 0, .int .i64 0, .int .i64 0, .int .i64 0, .int .i64 0, .int .i64 0, .slice none 0 0, .int .i64 0, .bool false, .bool false] 34)
 have HB := Aside0.mk hB
 obtain ⟨BA, Bc, rfl, _, _⟩ := hB
 go_enter Tryz.func17, Tryz.ntmps17
 go_upto_region 3 with (first
  | (go_at_call 49; refine (c_l6Any HS2.out HB.out hi1 ⟨hx0, hx1⟩).mono ?_; rintro e w3 ⟨v, a, i3, h3, rfl, hok, hi3, ⟨A1, c1, A2, c2, F1, F2, F3, es, rfl, hel, hq⟩⟩; simp only [arrC] at *; have HOK := Aside0.mk hok; have HEL := Aside0.mk hel; have HS3 := Aside0.mk hq; clear hq hel hok)
  | (go_at_call 50; refine (c_l1Size (HS1.out.rk HB.out) hl (by omega)).mono ?_; rintro e w2 ⟨⟨x, rfl, hx0, hx1⟩, hdr⟩; have HS2 := Aside0.mk (HS1.out.dr hdr); clear hdr)
  | (go_at_call 48; refine (c_l1New (RK_below HB.out (below_alloc (Below.refl _ _) _)) hl).mono ?_; rintro e w1 ⟨g, h1, rfl, hs1⟩; have hs2 := Sep.comp H0.out hs1; simp only [List.cons_append, List.nil_append] at hs2; have HS1 := Aside0.mk hs2; have hi1 : (0 : Int) ≤ 0 ∧ (0 : Int) ≤ (bs.length : Int) := ⟨Int.le_refl _, by omega⟩; clear hs1 hs2)
  | fail)
 have hq := (HS3.out.alloc (g := w3.heap.size) rfl #[.int .i64 a.id, .int .i64 a.gn, .int .i64 a.gs, .slice A1 a.mems.length c1, .int .i64 a.lost, .int .i64 a.built, .int .i64 a.seq, .int .i64 a.tail, .int .i64 a.gen, .slice A2 a.dirty.length c2, .int .i64 a.fuse, .bool a.down, .bool a.broken] 34).selT 6 [1, 2, 3, 4, 0, 5] (by decide) (by simp <;> omega)
 simp only [qqN, qqT] at hq
 generalize w3.alloc (.cells #[.int .i64 a.id, .int .i64 a.gn, .int .i64 a.gs, .slice A1 a.mems.length c1, .int .i64 a.lost, .int .i64 a.built, .int .i64 a.seq, .int .i64 a.tail, .int .i64 a.gen, .slice A2 a.dirty.length c2, .int .i64 a.fuse, .bool a.down, .bool a.broken] 34 (0, 0)) = w4 at *
 generalize w3.heap.size = g4 at *
 have HS4 := Aside0.mk hq
 clear hq HS3 HS2 HS1
 have kk := thirteen (HS4.out.get 4 rfl)
 go_wp2_with (first
  | (go_at_call 51; refine (c_l7Fuse ⟨A1, c1, A2, c2, F1, F2, F3, es, rfl, HEL.out, HS4.out⟩ HOK.out HB.out hi3).mono ?_; rintro e w5 ⟨v, a', i5, h5, rfl, hok, hi5, ⟨A1, c1, A2, c2, F1, F2, F3, es, rfl, hel, hq⟩⟩; simp only [arrC] at *; clear HEL HOK; have HOK := Aside0.mk hok; have HEL := Aside0.mk hel; have HS5 := Aside0.mk hq; clear hq hel hok kk; have zz := thirteen (HS5.out.get 5 rfl); have gz := blk_frozen (HS5.out.get 5 rfl))
  | fail)
 have HE := Sep.box13 HS5.out 5 rfl (.int .i64 a'.id) (.int .i64 a'.gn) (.int .i64 a'.gs) (.slice A1 a'.mems.length c1) (.int .i64 a'.lost) (.int .i64 a'.built) (.int .i64 a'.seq) (.int .i64 a'.tail) (.int .i64 a'.gen) (.slice A2 a'.dirty.length c2) (.int .i64 a'.fuse) (.bool a'.down) (.bool a'.broken)
 refine bodyPost_ret (results_cell_row rfl _ _ w.heap.size 34 #[.int .i64 a'.id, .int .i64 a'.gn, .int .i64 a'.gs, .slice A1 a'.mems.length c1, .int .i64 a'.lost, .int .i64 a'.built, .int .i64 a'.seq, .int .i64 a'.tail, .int .i64 a'.gen, .slice A2 a'.dirty.length c2, .int .i64 a'.fuse, .bool a'.down, .bool a'.broken] (0, 0) _ rfl (HE.get 5 rfl) Tryz.underlying34 rfl (by kernel_rfl)) rfl ?_
 have hq := HE.sel [0, 1, 2] (by decide) (by simp)
 simp only [qqN] at hq
 exact ar_d rfl HOK.out ⟨A1, c1, A2, c2, F1, F2, F3, es, rfl, HEL.out, hq⟩
set_option maxHeartbeats 4000000 in
set_option maxRecDepth 100000 in
theorem c_DrawMark {w : World} {B : Value} {bs : List Int} (hB : RK (Kd.int .u8) w B bs) (hl : bs.length ≤ 16777216) :
  Calls Tryz.prog 18 #[B] w (ArD w) := by
 have H0 := Aside0.mk ((Sep.start w []).alloc (g := w.heap.size) rfl #[.int .i64 0, .int .i64 0, .int .i64 0, .slice none 0 0, .int .i64 0, .int .i64 0, .int .i64 0, .int .i64 0, .int .i64 0, .slice none 0 0, .int .i64 0, .bool false, .bool false] 34)
 have HB := Aside0.mk hB
 obtain ⟨BA, Bc, rfl, _, _⟩ := hB
 go_enter Tryz.func18, Tryz.ntmps18
 go_wp2_with (first
  | (go_at_call 17; refine (c_DrawSync (RK_below HB.out (below_alloc (Below.refl _ _) _)) hl).mono ?_; rintro e w1 ⟨v, a, rfl, hok, ⟨A1, c1, A2, c2, F1, F2, F3, es, rfl, hel, hq⟩⟩; simp only [arrC] at *; have hs2 := Sep.comp H0.out hq; simp only [List.cons_append, List.nil_append] at hs2; have HOK := Aside0.mk hok; have HEL := Aside0.mk hel; have HS5 := Aside0.mk hs2; clear hq hel hok hs2; have zz := thirteen (HS5.out.get 3 rfl); have gz := blk_frozen (HS5.out.get 3 rfl))
  | fail)
 have HE := Sep.box13 HS5.out 3 rfl (.int .i64 a.id) (.int .i64 a.gn) (.int .i64 a.gs) (.slice A1 a.mems.length c1) (.int .i64 a.lost) (.int .i64 a.built) (.int .i64 a.seq) (.int .i64 a.tail) (.int .i64 a.gen) (.slice A2 a.dirty.length c2) (.int .i64 a.fuse) (.bool a.down) (.bool a.broken)
 refine bodyPost_ret (results_cell_row rfl _ _ w.heap.size 34 #[.int .i64 a.id, .int .i64 a.gn, .int .i64 a.gs, .slice A1 a.mems.length c1, .int .i64 a.lost, .int .i64 a.built, .int .i64 a.seq, .int .i64 a.tail, .int .i64 a.gen, .slice A2 a.dirty.length c2, .int .i64 a.fuse, .bool a.down, .bool a.broken] (0, 0) _ rfl (HE.get 3 rfl) Tryz.underlying34 rfl (by kernel_rfl)) rfl ?_
 have hq := HE.sel [0, 1, 2] (by decide) (by simp)
 simp only [qqN] at hq
 exact ar_d rfl HOK.out ⟨A1, c1, A2, c2, F1, F2, F3, es, rfl, HEL.out, hq⟩
set_option maxHeartbeats 4000000 in
set_option maxRecDepth 100000 in
theorem c_DrawCheck {w : World} {B : Value} {bs : List Int} (hB : RK (Kd.int .u8) w B bs) (hl : bs.length ≤ 16777216) :
  Calls Tryz.prog 19 #[B] w (ArD w) := by
 have H0 := Aside0.mk ((Sep.start w []).alloc (g := w.heap.size) rfl #[.int .i64 0, .int .i64 0, .int .i64 0, .slice none 0 0, .int .i64 0, .int .i64 0, .int .i64 0, .int .i64 0, .int .i64 0, .slice none 0 0, .int .i64 0, .bool false, .bool false] 34)
 have HB := Aside0.mk hB
 obtain ⟨BA, Bc, rfl, _, _⟩ := hB
 go_enter Tryz.func19, Tryz.ntmps19
 go_wp2_with (first
  | (go_at_call 17; refine (c_DrawSync (RK_below HB.out (below_alloc (Below.refl _ _) _)) hl).mono ?_; rintro e w1 ⟨v, a, rfl, hok, ⟨A1, c1, A2, c2, F1, F2, F3, es, rfl, hel, hq⟩⟩; simp only [arrC] at *; have hs2 := Sep.comp H0.out hq; simp only [List.cons_append, List.nil_append] at hs2; have HOK := Aside0.mk hok; have HEL := Aside0.mk hel; have HS5 := Aside0.mk hs2; clear hq hel hok hs2; have zz := thirteen (HS5.out.get 3 rfl); have gz := blk_frozen (HS5.out.get 3 rfl))
  | fail)
 have HE := Sep.box13 HS5.out 3 rfl (.int .i64 a.id) (.int .i64 a.gn) (.int .i64 a.gs) (.slice A1 a.mems.length c1) (.int .i64 a.lost) (.int .i64 a.built) (.int .i64 a.seq) (.int .i64 a.tail) (.int .i64 a.gen) (.slice A2 a.dirty.length c2) (.int .i64 a.fuse) (.bool a.down) (.bool a.broken)
 refine bodyPost_ret (results_cell_row rfl _ _ w.heap.size 34 #[.int .i64 a.id, .int .i64 a.gn, .int .i64 a.gs, .slice A1 a.mems.length c1, .int .i64 a.lost, .int .i64 a.built, .int .i64 a.seq, .int .i64 a.tail, .int .i64 a.gen, .slice A2 a.dirty.length c2, .int .i64 a.fuse, .bool a.down, .bool a.broken] (0, 0) _ rfl (HE.get 3 rfl) Tryz.underlying34 rfl (by kernel_rfl)) rfl ?_
 have hq := HE.sel [0, 1, 2] (by decide) (by simp)
 simp only [qqN] at hq
 exact ar_d rfl HOK.out ⟨A1, c1, A2, c2, F1, F2, F3, es, rfl, HEL.out, hq⟩
def WrD (w : World) (e : Ending) (w' : World) : Prop := ∃ (v u : Value) (s : Int) (a : ArrV) (F : List Nat) (xs : List Int), e = .returned (.tuple #[v, .int .i64 s, u]) ∧ (OkA a ∧ xs.length ≤ 13) ∧ Av w w' v a [rw_ oInt 3 F u xs]
theorem wr_d {w w' : World} {v u : Value} {s : Int} {a : ArrV} {F : List Nat} {xs : List Int} {e : Ending} (he : e = .returned (.tuple #[v, .int .i64 s, u])) (h1 : OkA a) (hx : xs.length ≤ 13) (h2 : Av w w' v a [rw_ oInt 3 F u xs]) : WrD w e w' := ⟨v, u, s, a, F, xs, he, ⟨h1, hx⟩, h2⟩
set_option maxHeartbeats 8000000 in
set_option maxRecDepth 100000 in
theorem c_DrawWriteStripe {w : World} {B : Value} {bs : List Int} (hB : RK (Kd.int .u8) w B bs) (hl : bs.length ≤ 16777216) :
  Calls Tryz.prog 16 #[B] w (WrD w) := by
 have H0 := Aside0.mk ((Sep.start w []).alloc (g := w.heap.size) rfl #[.int .i64 0, .int .i64 0, .int .i64 0, .slice none 0 0, .int .i64 0, .int .i64 0, .int .i64 0, .int .i64 0, .int .i64 0, .slice none 0 0, .int .i64 0, .bool false, .bool false] 34)
 have HB := Aside0.mk hB
 obtain ⟨BA, Bc, rfl, _, _⟩ := hB
 go_enter Tryz.func16, Tryz.ntmps16
 go_upto_region 3 with (first
  | (go_at_call 49; refine (c_l6Any HS2.out HB.out hi1 ⟨hx0, hx1⟩).mono ?_; rintro e w3 ⟨v, a, i3, h3, rfl, hok, hi3, ⟨A1, c1, A2, c2, F1, F2, F3, es, rfl, hel, hq⟩⟩; simp only [arrC] at *; have HOK := Aside0.mk hok; have HEL := Aside0.mk hel; have HS3 := Aside0.mk hq; clear hq hel hok)
  | (go_at_call 50; refine (c_l1Size (HS1.out.rk HB.out) hl (by omega)).mono ?_; rintro e w2 ⟨⟨x, rfl, hx0, hx1⟩, hdr⟩; have HS2 := Aside0.mk (HS1.out.dr hdr); clear hdr)
  | (go_at_call 48; refine (c_l1New (RK_below HB.out (below_alloc (Below.refl _ _) _)) hl).mono ?_; rintro e w1 ⟨g, h1, rfl, hs1⟩; have hs2 := Sep.comp H0.out hs1; simp only [List.cons_append, List.nil_append] at hs2; have HS1 := Aside0.mk hs2; have hi1 : (0 : Int) ≤ 0 ∧ (0 : Int) ≤ (bs.length : Int) := ⟨Int.le_refl _, by omega⟩; clear hs1 hs2)
  | fail)
 have hq := (HS3.out.alloc (g := w3.heap.size) rfl #[.int .i64 a.id, .int .i64 a.gn, .int .i64 a.gs, .slice A1 a.mems.length c1, .int .i64 a.lost, .int .i64 a.built, .int .i64 a.seq, .int .i64 a.tail, .int .i64 a.gen, .slice A2 a.dirty.length c2, .int .i64 a.fuse, .bool a.down, .bool a.broken] 34).selT 6 [1, 2, 3, 4, 0, 5] (by decide) (by simp <;> omega)
 simp only [qqN, qqT] at hq
 generalize w3.alloc (.cells #[.int .i64 a.id, .int .i64 a.gn, .int .i64 a.gs, .slice A1 a.mems.length c1, .int .i64 a.lost, .int .i64 a.built, .int .i64 a.seq, .int .i64 a.tail, .int .i64 a.gen, .slice A2 a.dirty.length c2, .int .i64 a.fuse, .bool a.down, .bool a.broken] 34 (0, 0)) = w4 at *
 generalize w3.heap.size = g4 at *
 have HS4 := Aside0.mk hq
 clear hq HS3 HS2 HS1
 have kk := thirteen (HS4.out.get 4 rfl)
 go_upto_region 4 with (first
  | (go_at_call 51; refine (c_l7Fuse ⟨A1, c1, A2, c2, F1, F2, F3, es, rfl, HEL.out, HS4.out⟩ HOK.out HB.out hi3).mono ?_; rintro e w5 ⟨v, a', i5, h5, rfl, hok, hi5, ⟨A1, c1, A2, c2, F1, F2, F3, es, rfl, hel, hq⟩⟩; simp only [arrC] at *; clear HEL HOK; have HOK := Aside0.mk hok; have HEL := Aside0.mk hel; have HS5 := Aside0.mk hq; clear hq hel hok kk; have zz := thirteen (HS5.out.get 4 rfl); have gz := blk_frozen (HS5.out.get 4 rfl))
  | fail)
 have hq := Sep.box13 HS5.out 4 rfl (.int .i64 a'.id) (.int .i64 a'.gn) (.int .i64 a'.gs) (.slice A1 a'.mems.length c1) (.int .i64 a'.lost) (.int .i64 a'.built) (.int .i64 a'.seq) (.int .i64 a'.tail) (.int .i64 a'.gen) (.slice A2 a'.dirty.length c2) (.int .i64 a'.fuse) (.bool a'.down) (.bool a'.broken)
 simp only [qqN] at hq
 generalize (((((((((((((w5.setCell ⟨g4, 0, none⟩ (.int .i64 a'.id)).setCell ⟨g4, 1, none⟩ (.int .i64 a'.gn)).setCell ⟨g4, 2, none⟩ (.int .i64 a'.gs)).setCell ⟨g4, 3, none⟩ (.slice A1 a'.mems.length c1)).setCell ⟨g4, 4, none⟩ (.int .i64 a'.lost)).setCell ⟨g4, 5, none⟩ (.int .i64 a'.built)).setCell ⟨g4, 6, none⟩ (.int .i64 a'.seq)).setCell ⟨g4, 7, none⟩ (.int .i64 a'.tail)).setCell ⟨g4, 8, none⟩ (.int .i64 a'.gen)).setCell ⟨g4, 9, none⟩ (.slice A2 a'.dirty.length c2)).setCell ⟨g4, 10, none⟩ (.int .i64 a'.fuse)).setCell ⟨g4, 11, none⟩ (.bool a'.down)).setCell ⟨g4, 12, none⟩ (.bool a'.broken)) = w6 at *
 have HS6 := Aside0.mk hq
 clear hq zz gz HS5
 have kk := thirteen (HS6.out.get 4 rfl)
 have hq := HS6.out.selT 6 [3, 0, 1, 2, 4, 5] (by decide) (by simp <;> omega)
 simp only [qqN, qqT] at hq
 have HT6 := Aside0.mk hq
 have hg1 := HOK.out.2
 have hwg : IntKind.i64.wrap (a'.gn - 1) = a'.gn - 1 := IntWalk.i64_in _ (by omega)
 clear hq HS6
 go_upto_region 6 with (first
  | (go_at_call 53; refine (c_l1Once HT7.out HB.out hi7 (by omega)).mono ?_; rintro e w8 ⟨y, i8, h8, rfl, hi8, hq⟩; cases y <;> (have HT8 := Aside0.mk hq; clear hq))
  | (go_at_call 52; refine (c_l7Some HT6.out HB.out hi5 (by omega)).mono ?_; rintro e w7 ⟨A7, c7, F7, xs, i7, h7, rfl, hx7, hi7, hq⟩; have HT7 := Aside0.mk (hq.perm (List.Perm.swap _ _ _)); clear hq kk)
  | fail)
 ·skip
  go_upto_region 7 with fail
  refine wp_region_seqc (fun w' => w'.cell? ⟨g4, 0, none⟩ = some (.int .i64 a'.id) ∧ w'.cell? ⟨g4, 1, none⟩ = some (.int .i64 a'.gn) ∧ w'.cell? ⟨g4, 2, none⟩ = some (.int .i64 a'.gs) ∧ w'.cell? ⟨g4, 3, none⟩ = some (.slice A1 a'.mems.length c1) ∧ w'.cell? ⟨g4, 4, none⟩ = some (.int .i64 a'.lost) ∧ w'.cell? ⟨g4, 5, none⟩ = some (.int .i64 a'.built) ∧ w'.cell? ⟨g4, 6, none⟩ = some (.int .i64 a'.seq) ∧ w'.cell? ⟨g4, 7, none⟩ = some (.int .i64 a'.tail) ∧ w'.cell? ⟨g4, 8, none⟩ = some (.int .i64 a'.gen) ∧ w'.cell? ⟨g4, 9, none⟩ = some (.slice A2 a'.dirty.length c2) ∧ w'.cell? ⟨g4, 10, none⟩ = some (.int .i64 a'.fuse) ∧ w'.cell? ⟨g4, 11, none⟩ = some (.bool a'.down) ∧ w'.cell? ⟨g4, 12, none⟩ = some (.bool a'.broken)) [5] [(1, 2), (4, 2), (0, 1), (2, 0), (3, 0), (5, 0), (6, 0), (7, 0)] (by kernel_rfl) (by kernel_rfl) ?_
  have HV := Aside0.mk HT8.out.drew
  have hS := thirteen (HV.out.get 5 rfl)
  repeat ((first | (refine seqp_pure rfl (fun _ _ _ h => h) (by rfl) (fun w_ => by go_simp; first | done | with_reducible rfl) ?_) | (refine seqp_take hS rfl (fun _ _ _ h => h) (by rfl) (fun w_ hSw => by (try dsimp only at hSw); go_simp; first | done | with_reducible rfl) ?_) | (refine seqp_skip2 rfl (fun _ _ _ h => h) (by rfl) ?_) | (refine seqp_skip1 hS rfl (fun _ _ _ h => h) (by rfl) ?_) | (refine seqp_skip0 rfl (by rfl) ?_)); (try simp only [Act.put, qqP]))
  refine seqp_step rfl (fun K hK => ?_)
  go_simp
  have hnl := (new_lit HV.out (g := w8.drew.heap.size) rfl 3 (#[.int .i64 0, .int .i64 0, .int .i64 0, .int .i64 1, .int .i64 2, .int .i64 (-1), .int .i64 8]) (l := [0, 0, 0, 1, 2, -1, 8]) (n := 7) rfl rfl (by decide)).selT 8 [1, 0, 2, 3, 4, 5, 6, 7] (by decide) (by simp <;> omega)
  simp only [qqN, qqT] at hnl
  have HN9 := Aside0.mk hnl
  clear hS hnl
  have hS := thirteen (HN9.out.get 6 rfl)
  refine hK.out _ _ ⟨fun _ _ => hS, ?_⟩; clear hK K; (try simp only [Act.put, qqP])
  refine seqp_step rfl (fun K hK => ?_)
  go_simp
  go_at_call 55; refine (c_l1Int HN9.out HB.out hi8 (fun w' hw => O_RK (hw.get 0 rfl)) (by decide)).mono ?_; rintro e w9 ⟨z, i9, h9, rfl, hz, hi9, hq⟩
  have HT9 := Aside0.mk hq
  clear hq hS
  have hS := thirteen (HT9.out.get 6 rfl)
  refine hK.out _ _ ⟨fun _ _ => hS, ?_⟩; clear hK K; (try simp only [Act.put, qqP])
  clear hS
  have zz := thirteen (HT9.out.get 7 rfl)
  have gz := blk_frozen (HT9.out.get 7 rfl)
  refine seqp_step rfl (fun K hK => ?_)
  go_simp
  refine hK.out _ _ ⟨(fun h => (by cases h)), ?_⟩; clear hK K; (try simp only [Act.put, qqP])
  have hq := Sep.box13 HT9.out 7 rfl (.int .i64 a'.id) (.int .i64 a'.gn) (.int .i64 a'.gs) (.slice A1 a'.mems.length c1) (.int .i64 a'.lost) (.int .i64 a'.built) (.int .i64 a'.seq) (.int .i64 a'.tail) (.int .i64 a'.gen) (.slice A2 a'.dirty.length c2) (.int .i64 a'.fuse) (.bool a'.down) (.bool a'.broken)
  simp only [qqN] at hq
  generalize (((((((((((((w9.setCell ⟨w.heap.size, 0, none⟩ (.int .i64 a'.id)).setCell ⟨w.heap.size, 1, none⟩ (.int .i64 a'.gn)).setCell ⟨w.heap.size, 2, none⟩ (.int .i64 a'.gs)).setCell ⟨w.heap.size, 3, none⟩ (.slice A1 a'.mems.length c1)).setCell ⟨w.heap.size, 4, none⟩ (.int .i64 a'.lost)).setCell ⟨w.heap.size, 5, none⟩ (.int .i64 a'.built)).setCell ⟨w.heap.size, 6, none⟩ (.int .i64 a'.seq)).setCell ⟨w.heap.size, 7, none⟩ (.int .i64 a'.tail)).setCell ⟨w.heap.size, 8, none⟩ (.int .i64 a'.gen)).setCell ⟨w.heap.size, 9, none⟩ (.slice A2 a'.dirty.length c2)).setCell ⟨w.heap.size, 10, none⟩ (.int .i64 a'.fuse)).setCell ⟨w.heap.size, 11, none⟩ (.bool a'.down)).setCell ⟨w.heap.size, 12, none⟩ (.bool a'.broken)) = w10 at *
  have HE := Aside0.mk hq
  clear hq zz gz
  refine seqp_step rfl (fun K hK => ?_)
  go_simp
  refine hK.out _ _ ⟨fun _ h => h, ?_⟩; clear hK K; (try simp only [Act.put, qqP])
  refine seqp_step rfl (fun K hK => ?_)
  go_simp
  refine hK.out _ _ ⟨fun _ h => h, ?_⟩; clear hK K; (try simp only [Act.put, qqP])
  refine seqp_done ?_
  go_wp2
  refine bodyPost_ret (results_ctt rfl _ _ w.heap.size 34 #[.int .i64 a'.id, .int .i64 a'.gn, .int .i64 a'.gs, .slice A1 a'.mems.length c1, .int .i64 a'.lost, .int .i64 a'.built, .int .i64 a'.seq, .int .i64 a'.tail, .int .i64 a'.gen, .slice A2 a'.dirty.length c2, .int .i64 a'.fuse, .bool a'.down, .bool a'.broken] (0, 0) _ rfl (HE.out.get 7 rfl) Tryz.underlying34 rfl (by kernel_rfl)) rfl ?_
  have hq := HE.out.sel [3, 4, 5, 2] (by decide) (by simp)
  simp only [qqN] at hq
  exact wr_d rfl HOK.out hx7 ⟨A1, c1, A2, c2, F1, F2, F3, es, rfl, HEL.out, hq⟩
 ·skip
  clear hx7
  go_upto_region 7 with (first
   | (go_at_call 54; refine (c_l1Any HT8.out HB.out hi8).mono ?_; clear hi8; rintro e w8 ⟨A7, c7, F7, xs, i8, h8, rfl, hx7, hi8, hq⟩; clear HT8; have hq2 := hq.selT 3 [1, 0] (by decide) (by simp <;> omega); simp only [qqN, qqT] at hq2; have HT8 := Aside0.mk hq2; clear hq hq2)
   | fail)
  go_upto_region 7 with fail
  refine wp_region_seqc (fun w' => w'.cell? ⟨g4, 0, none⟩ = some (.int .i64 a'.id) ∧ w'.cell? ⟨g4, 1, none⟩ = some (.int .i64 a'.gn) ∧ w'.cell? ⟨g4, 2, none⟩ = some (.int .i64 a'.gs) ∧ w'.cell? ⟨g4, 3, none⟩ = some (.slice A1 a'.mems.length c1) ∧ w'.cell? ⟨g4, 4, none⟩ = some (.int .i64 a'.lost) ∧ w'.cell? ⟨g4, 5, none⟩ = some (.int .i64 a'.built) ∧ w'.cell? ⟨g4, 6, none⟩ = some (.int .i64 a'.seq) ∧ w'.cell? ⟨g4, 7, none⟩ = some (.int .i64 a'.tail) ∧ w'.cell? ⟨g4, 8, none⟩ = some (.int .i64 a'.gen) ∧ w'.cell? ⟨g4, 9, none⟩ = some (.slice A2 a'.dirty.length c2) ∧ w'.cell? ⟨g4, 10, none⟩ = some (.int .i64 a'.fuse) ∧ w'.cell? ⟨g4, 11, none⟩ = some (.bool a'.down) ∧ w'.cell? ⟨g4, 12, none⟩ = some (.bool a'.broken)) [5] [(1, 2), (4, 2), (0, 1), (2, 0), (3, 0), (5, 0), (6, 0), (7, 0)] (by kernel_rfl) (by kernel_rfl) ?_
  have HV := Aside0.mk HT8.out.drew
  have hS := thirteen (HV.out.get 5 rfl)
  repeat ((first | (refine seqp_pure rfl (fun _ _ _ h => h) (by rfl) (fun w_ => by go_simp; first | done | with_reducible rfl) ?_) | (refine seqp_take hS rfl (fun _ _ _ h => h) (by rfl) (fun w_ hSw => by (try dsimp only at hSw); go_simp; first | done | with_reducible rfl) ?_) | (refine seqp_skip2 rfl (fun _ _ _ h => h) (by rfl) ?_) | (refine seqp_skip1 hS rfl (fun _ _ _ h => h) (by rfl) ?_) | (refine seqp_skip0 rfl (by rfl) ?_)); (try simp only [Act.put, qqP]))
  refine seqp_step rfl (fun K hK => ?_)
  go_simp
  have hnl := (new_lit HV.out (g := w8.drew.heap.size) rfl 3 (#[.int .i64 0, .int .i64 0, .int .i64 0, .int .i64 1, .int .i64 2, .int .i64 (-1), .int .i64 8]) (l := [0, 0, 0, 1, 2, -1, 8]) (n := 7) rfl rfl (by decide)).selT 8 [1, 0, 2, 3, 4, 5, 6, 7] (by decide) (by simp <;> omega)
  simp only [qqN, qqT] at hnl
  have HN9 := Aside0.mk hnl
  clear hS hnl
  have hS := thirteen (HN9.out.get 6 rfl)
  refine hK.out _ _ ⟨fun _ _ => hS, ?_⟩; clear hK K; (try simp only [Act.put, qqP])
  refine seqp_step rfl (fun K hK => ?_)
  go_simp
  go_at_call 55; refine (c_l1Int HN9.out HB.out hi8 (fun w' hw => O_RK (hw.get 0 rfl)) (by decide)).mono ?_; rintro e w9 ⟨z, i9, h9, rfl, hz, hi9, hq⟩
  have HT9 := Aside0.mk hq
  clear hq hS
  have hS := thirteen (HT9.out.get 6 rfl)
  refine hK.out _ _ ⟨fun _ _ => hS, ?_⟩; clear hK K; (try simp only [Act.put, qqP])
  clear hS
  have zz := thirteen (HT9.out.get 7 rfl)
  have gz := blk_frozen (HT9.out.get 7 rfl)
  refine seqp_step rfl (fun K hK => ?_)
  go_simp
  refine hK.out _ _ ⟨(fun h => (by cases h)), ?_⟩; clear hK K; (try simp only [Act.put, qqP])
  have hq := Sep.box13 HT9.out 7 rfl (.int .i64 a'.id) (.int .i64 a'.gn) (.int .i64 a'.gs) (.slice A1 a'.mems.length c1) (.int .i64 a'.lost) (.int .i64 a'.built) (.int .i64 a'.seq) (.int .i64 a'.tail) (.int .i64 a'.gen) (.slice A2 a'.dirty.length c2) (.int .i64 a'.fuse) (.bool a'.down) (.bool a'.broken)
  simp only [qqN] at hq
  generalize (((((((((((((w9.setCell ⟨w.heap.size, 0, none⟩ (.int .i64 a'.id)).setCell ⟨w.heap.size, 1, none⟩ (.int .i64 a'.gn)).setCell ⟨w.heap.size, 2, none⟩ (.int .i64 a'.gs)).setCell ⟨w.heap.size, 3, none⟩ (.slice A1 a'.mems.length c1)).setCell ⟨w.heap.size, 4, none⟩ (.int .i64 a'.lost)).setCell ⟨w.heap.size, 5, none⟩ (.int .i64 a'.built)).setCell ⟨w.heap.size, 6, none⟩ (.int .i64 a'.seq)).setCell ⟨w.heap.size, 7, none⟩ (.int .i64 a'.tail)).setCell ⟨w.heap.size, 8, none⟩ (.int .i64 a'.gen)).setCell ⟨w.heap.size, 9, none⟩ (.slice A2 a'.dirty.length c2)).setCell ⟨w.heap.size, 10, none⟩ (.int .i64 a'.fuse)).setCell ⟨w.heap.size, 11, none⟩ (.bool a'.down)).setCell ⟨w.heap.size, 12, none⟩ (.bool a'.broken)) = w10 at *
  have HE := Aside0.mk hq
  clear hq zz gz
  refine seqp_step rfl (fun K hK => ?_)
  go_simp
  refine hK.out _ _ ⟨fun _ h => h, ?_⟩; clear hK K; (try simp only [Act.put, qqP])
  refine seqp_step rfl (fun K hK => ?_)
  go_simp
  refine hK.out _ _ ⟨fun _ h => h, ?_⟩; clear hK K; (try simp only [Act.put, qqP])
  refine seqp_done ?_
  go_wp2
  refine bodyPost_ret (results_ctt rfl _ _ w.heap.size 34 #[.int .i64 a'.id, .int .i64 a'.gn, .int .i64 a'.gs, .slice A1 a'.mems.length c1, .int .i64 a'.lost, .int .i64 a'.built, .int .i64 a'.seq, .int .i64 a'.tail, .int .i64 a'.gen, .slice A2 a'.dirty.length c2, .int .i64 a'.fuse, .bool a'.down, .bool a'.broken] (0, 0) _ rfl (HE.out.get 7 rfl) Tryz.underlying34 rfl (by kernel_rfl)) rfl ?_
  have hq := HE.out.sel [3, 4, 5, 2] (by decide) (by simp)
  simp only [qqN] at hq
  exact wr_d rfl HOK.out hx7 ⟨A1, c1, A2, c2, F1, F2, F3, es, rfl, HEL.out, hq⟩
end DSync
end Go.Proofs.YtggmifnblcjdfaaGreat
