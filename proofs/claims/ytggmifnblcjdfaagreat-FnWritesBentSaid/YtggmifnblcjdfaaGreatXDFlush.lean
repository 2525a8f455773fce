/- Own text: DFlush. -/
import Derived.Test.YtggmifnblcjdfaaGreatXB7
import Derived.Test.YtggmifnblcjdfaaGreatXAQStripe
set_option linter.unusedVariables false
set_option linter.unusedSimpArgs false
namespace Go.Proofs.YtggmifnblcjdfaaGreat
namespace DFlush
open Go.RowKit RJ RP RPC Go.Proofs.YtggmifnblcjdfaaGreatW.PrintWords Fp FpStep MInt MKinds MRead MMake MPut MHeld MOk MVal MSuper Go.Proofs.YtggmifnblcjdfaaGreat.Sep SepStep AKinds AOk AOkD AOkA AStrV AStrS AQStripe DRes DInv DAt DEnd
theorem erase_mem {α : Type} {l : List α} {q : Nat} : ∀ x ∈ l.take q ++ l.drop (q + 1), x ∈ l := by
 intro x hx
 rcases List.mem_append.1 hx with hx | hx
 ·exact List.mem_of_mem_take hx
 ·exact List.mem_of_mem_drop hx
theorem flush_done {w0 w : World} {L : List Res} {g hh c1 c c2 : Nat} {a : ArrV} {A A2 : Option Addr} {F F1 F2 F3 : List Nat} {es out : List (Int × Value)} {b d : Int} {n : Nat}
  (H : Sep w0 [] w (rw_ oShl 91 F (.slice A n c) out :: bx g 34 (arrC a (.slice (some ⟨hh, 0, none⟩) a.mems.length c1) (.slice A n c)) :: rw_ oMem 89 F1 (.slice (some ⟨hh, 0, none⟩) a.mems.length c1) a.mems :: rw_ oShl 91 F2 (.slice A2 es.length c2) es :: da F3 es a.dirty :: L))
  (ho : ∀ q ∈ out, q ∈ es) (hl : out.length + 1 = es.length) (hn : n = out.length) (hG : Fit b d a) : ∃ a', (Fit b d a' ∧ a'.dirty.length < a.dirty.length) ∧ Bx w0 w g a' L := by
 subst hn
 obtain ⟨l', h1, h2, h3⟩ := da_pick (H.lies 4 rfl) out ho
 have hel : es.length = a.dirty.length := (H.get 4 rfl : Dat w es a.dirty).1
 have h4 := H.selT 5 [4, 1, 2, 0] (by decide) (by simp <;> omega)
 simp only [qqN, qqT] at h4
 have h5 := Sep.glue (M := [da F3 es a.dirty]) (r := da F3 out l') h4 (by simp [fps, da]) h3
 have h6 := h5.selT 4 [1, 2, 3, 0] (by decide) (by simp <;> omega)
 simp only [qqN, qqT] at h6
 refine ⟨{ a with dirty := l' }, ⟨good_dirty hG (by have := hG.dl; omega) (fun x hx2 => hG.de x (h2 x hx2)), by show l'.length < _; omega⟩, hh, c1, A, c, F1, F, F3, out, h1.symm, ?_⟩
 show Sep w0 [] w (bx g 34 (arrC { a with dirty := l' } (.slice (some ⟨hh, 0, none⟩) a.mems.length c1) (.slice A l'.length c)) :: rw_ oMem 89 F1 (.slice (some ⟨hh, 0, none⟩) a.mems.length c1) a.mems :: rw_ oShl 91 F (.slice A l'.length c) out :: da F3 out l' :: L)
 rw [h1]
 exact h6
def FlR (w0 w : World) (g : Nat) (a : ArrV) (L : List Res) (s b d : Int) (e : Ending) (w' : World) : Prop := ∃ c a', e = .returned (.int .i64 c) ∧ (Fit (b + 2) d a' ∧ (c = 0 → (∃ x ∈ a.dirty, x.1 = s) → a'.dirty.length < a.dirty.length)) ∧ Bx w0 w' g a' L
theorem fl_end {w0 w w' : World} {g : Nat} {a a' : ArrV} {L : List Res} {s b d c : Int} {e : Ending} (he : e = .returned (.int .i64 c)) (h1 : Fit (b + 2) d a') (h2 : c = 0 → (∃ x ∈ a.dirty, x.1 = s) → a'.dirty.length < a.dirty.length) (h3 : Bx w0 w' g a' L) : FlR w0 w g a L s b d e w' := ⟨c, a', he, ⟨h1, h2⟩, h3⟩
set_option maxHeartbeats 8000000 in
set_option maxRecDepth 100000 in
theorem c_l8Flush {w0 w : World} {g : Nat} {a : ArrV} {L : List Res} {s b d : Int} (h : Bx w0 w g a L) (hG : Fit b d a) (hd : d ≤ 1000) (hb : b ≤ 50000) :
  Calls Tryz.prog 162 #[.pointer (some ⟨g, 0, none⟩), .int .i64 s] w (FlR w0 w g a L s b d) := by
 obtain ⟨hh, c1, A2, c2, F1, F2, F3, es, hel, hs⟩ := h
 have HG := Aside0.mk hG
 have HEL := Aside0.mk hel
 have HSM := Aside0.mk (hG.small (by omega : d ≤ 16777216))
 have HDL := Aside0.mk (show es.length ≤ 1000 by have := hG.dl; omega)
 have HI := Aside0.mk hs
 clear hs hG hel
 simp only [arrC] at *
 have kk := thirteen (HI.out.get 0 rfl)
 go_enter Tryz.func162, Tryz.ntmps162
 go_upto_region 2 with (first
  | (go_at_call 176; refine (c_l8At (box_R (es := es) HI.out)).mono ?_; rintro e w1 ⟨⟨k, rfl, hk⟩, hb⟩; have HS1 := Aside0.mk (HI.out.below hb); clear hb kk)
  | fail)
 by_cases hk0 : k < 0
 ·have HA := Aside0.mk hk
  clear hk
  go_wp2
  go_ret
  refine fl_end rfl (HG.out.le (by omega) (by omega)) (fun _ hx => ?_) (Bx.le HEL.out HS1.out)
  obtain ⟨x, hx, hxs⟩ := hx
  rcases HA.out with ⟨_, h1⟩ | ⟨h1, _⟩
  ·exact absurd hxs (h1 x hx)
  ·omega
 obtain ⟨q, rfl⟩ : ∃ q : Nat, k = (q : Int) := ⟨k.toNat, by omega⟩
 have hq : q < a.dirty.length := by rcases hk with ⟨h1, _⟩ | ⟨_, h1⟩ <;> omega
 have hqe : q < es.length := by have := HEL.out; omega
 obtain ⟨⟨n, xs⟩, hx⟩ : ∃ x, a.dirty[q]? = some x := ⟨_, List.getElem?_eq_getElem hq⟩
 obtain ⟨⟨n2, u⟩, hu⟩ : ∃ x, es[q]? = some x := ⟨_, List.getElem?_eq_getElem hqe⟩
 have HXL := Aside0.mk (show (xs.length : Int) = a.gn - 1 from HG.out.de _ (List.mem_of_getElem? hx))
 have HXM := Aside0.mk (show xs.length ≤ 1048576 by have := HXL.out; have := HG.out.n; omega)
 have HD := Aside0.mk (show ∀ (w' : World), Dat w' es a.dirty → RK kInt w' u xs from fun w' h => (h.2 q _ _ hu hx).2)
 obtain ⟨ad, rfl, hc⟩ := shl_cells (HS1.out.get 2 rfl) (by omega)
 have HCC := Aside0.mk hc
 obtain ⟨_, cu, _⟩ := hc q (n2, u) hu
 simp only at cu
 have q0 : (0 : Int) ≤ (q : Int) := by omega
 have q1 : (q : Int) < (a.dirty.length : Int) := by omega
 have hk1 : decide ((q : Int) < 0) = false := decide_eq_false (by omega)
 have CU := Aside0.mk cu
 clear hc hx hu hk hk0 cu
 go_upto_region 4 with fail
 have HALL := Aside0.mk (fun (w' : World) (hb : Below w1.heap.size w1 w') => And.intro (thirteenB (HS1.out.get 0 rfl) hb) (cell_later CU.out hb))
 refine wp_region_seqc (fun w' => Below w1.heap.size w1 w') [13] [(0, 2), (1, 2), (3, 2), (4, 2), (5, 2), (6, 2), (8, 2), (2, 1), (7, 1), (9, 2), (10, 2), (11, 1), (12, 0), (13, 0)] (by kernel_rfl) (by kernel_rfl) ?_
 have hS : Below w1.heap.size w1 w1.drew := Below.drew (Below.refl _ _)
 repeat ((first | (refine seqp_pure rfl (fun _ _ _ h => h) (by rfl) (fun w_ => by go_simp; first | done | with_reducible rfl) ?_) | (refine seqp_take hS rfl (fun _ _ _ h => h) (by rfl) (fun w_ hSw => by have hSc := HALL.out w_ hSw; clear hSw; go_simp; first | done | with_reducible rfl) ?_) | (refine seqp_skip2 rfl (fun _ _ _ h => h) (by rfl) ?_) | (refine seqp_skip1 hS rfl (fun _ _ _ h => h) (by rfl) ?_) | (refine seqp_skip0 rfl (by rfl) ?_)); (try simp only [Act.put, qqP]))
 have HS3 := Aside0.mk (HS1.out.below hS)
 refine seqp_step rfl (fun K hK => ?_)
 go_simp
 go_at_call 30; refine (c_l7Code (s := s) (box_R (es := es) HS3.out) HSM.out (HD.out _ (HS3.out.get 3 rfl)) HXM.out).mono ?_
 obtain ⟨cc, hcc⟩ : ∃ cc, codeV a s xs = cc := ⟨_, rfl⟩
 have HCV := Aside0.mk hcc
 rw [hcc]
 clear hcc
 rintro e w4 ⟨rfl, hb⟩
 have HS4 := Aside0.mk (HS3.out.below hb)
 replace hS := hS.trans (hb.mono hS.size); clear hb; refine hK.out _ _ ⟨fun _ _ => hS, ?_⟩; clear hK K; (try simp only [Act.put, qqP])
 refine seqp_step rfl (fun K hK => ?_)
 go_simp
 have HCU := Aside0.mk (cell_later CU.out hS)
 refine hK.out _ _ ⟨(fun h => (by cases h)), ?_⟩; clear hK K; (try simp only [Act.put, qqP])
 clear hS HALL
 refine seqp_done ?_
 have kk := thirteen (HS4.out.get 0 rfl)
 by_cases hc0 : cc = 0
 case neg =>
  have hcb : (cc != 0) = true := by simp [hc0]
  go_wp2
  go_ret
  exact fl_end rfl (HG.out.le (by omega) (by omega)) (fun h => absurd h hc0) (Bx.le HEL.out HS4.out)
 subst hc0
 have HC0 := Aside0.mk (code_0 HCV.out)
 have HGS := Aside0.mk (good_str (s := s) HXM.out HG.out)
 have HDS := Aside0.mk (strV_dirty a s xs)
 have HML := Aside0.mk (strV_most_seq a s xs).2
 obtain ⟨nv, hnv⟩ : ∃ nv, strV a s xs = nv := ⟨_, rfl⟩
 have HNV := Aside0.mk hnv
 rw [hnv] at HGS HDS HML
 clear hnv
 have HDC := Aside0.mk (show downC nv = 0 from downC_no HGS.out.down)
 have hcu := HCU.out
 go_upto_region 9 with (first
  | (go_at_call 31; refine (c_specStrF HS4.out rfl HSM.out.1 HG.out.down (by have := HG.out.fuse; omega) HSM.out.2.1 (fun w' M h => HD.out w' (h.get (r := da F3 es a.dirty) (M.length + 1) (by simp))) (fun w' M h => shl_RK (h.get (r := rw_ oShl 91 F2 _ es) M.length (by simp)) (h.get (r := da F3 es a.dirty) (M.length + 1) (by simp))) HG.out.geo HG.out.len HC0.out.2.2.2.1 HXL.out ⟨HG.out.seq.1, by have := HG.out.seq; omega⟩ ⟨HG.out.tail.1, by have := HG.out.tail; omega⟩ ⟨HG.out.gen.1, by have := HG.out.gen; omega⟩).mono ?_; rw [HNV.out, HDC.out]; rintro e w8 ⟨F8, rfl, hs8⟩; simp only [arrC] at hs8; have HS8 := Aside0.mk hs8; clear hs8 kk hcu)
  | fail)
 obtain ⟨ad', e', hc⟩ := shl_cells (HS8.out.get 2 rfl) (by omega)
 obtain rfl := Option.some.inj e'
 have HC8 := Aside0.mk hc
 have hlc : a.dirty.length ≤ c2 := by have := HEL.out; have := shl_cap (HS8.out.get 2 rfl); omega
 clear hc e'
 have hqc : (q : Int) ≤ (c2 : Int) := by omega
 have HW := Aside0.mk (show IntKind.i64.wrap ((q : Int) + 1) = ((q + 1 : Nat) : Int) by rw [IntWalk.i64_in _ (by have := HDL.out; omega)]; omega)
 have HALL := Aside0.mk (fun (w' : World) (hb : Below w8.heap.size w8 w') => (thirteenB (HS8.out.get 0 rfl) hb))
 refine wp_region_seqc (fun w' => Below w8.heap.size w8 w') [19] [(0, 2), (2, 2), (3, 2), (4, 2), (6, 2), (9, 2), (10, 2), (11, 2), (13, 2), (14, 2), (5, 1), (7, 2), (12, 1), (15, 2), (1, 0), (8, 0), (16, 0), (17, 2), (18, 2), (19, 0)] (by kernel_rfl) (by kernel_rfl) ?_
 have hS : Below w8.heap.size w8 w8.drew := Below.drew (Below.refl _ _)
 repeat ((first | (refine seqp_pure rfl (fun _ _ _ h => h) (by rfl) (fun w_ => by go_simp; first | done | with_reducible rfl) ?_) | (refine seqp_take hS rfl (fun _ _ _ h => h) (by rfl) (fun w_ hSw => by have hSc := HALL.out w_ hSw; clear hSw; go_simp; first | done | with_reducible rfl) ?_) | (refine seqp_skip2 rfl (fun _ _ _ h => h) (by rfl) ?_) | (refine seqp_skip1 hS rfl (fun _ _ _ h => h) (by rfl) ?_) | (refine seqp_skip0 rfl (by rfl) ?_)); (try simp only [Act.put, qqP]))
 obtain ⟨ad2, had⟩ : ∃ x, (if c2 = q + 1 then ad else ad.add ((q + 1) * 2)) = x := ⟨_, rfl⟩
 have HAD := Aside0.mk had
 clear had
 refine seqp_pure (v := .slice (some ad2) (a.dirty.length - (q + 1)) (c2 - (q + 1))) rfl (fun _ _ _ h => h) (by rfl) (fun w_ => by go_simp; rw [HW.out]; simp only [Int.toNat_natCast]; rw [if_pos ⟨by omega, by omega⟩, ← HAD.out]; split <;> rfl) ?_
 (try simp only [Act.put, qqP])
 have HL := Aside0.mk ((Sep.start w8 []).drew.lit (g := w8.drew.heap.size) rfl oShl 91)
 replace hS := HL.out.toBelow
 refine seqp_step rfl (fun K hK => ?_)
 go_simp
 refine hK.out _ _ ⟨fun _ _ => hS, ?_⟩; clear hK K; (try simp only [Act.put, qqP])
 refine seqp_step rfl (fun K hK => ?_)
 refine step_shl HL.out rfl _ _ 32 (.agg #[.int .i64 0, .slice none 0 0]) 32 (by rfl) Tryz.underlying32 (by kernel_rfl) rfl (by decide) ad q c2 (es.take q) (by rfl) (by rfl) (by simp; omega) (fun j x hx => ?_) (by simp; have := HDL.out; omega) ?_
 ·rw [List.getElem?_take] at hx
  split at hx
  ·obtain ⟨h1, h2, h3⟩ := HC8.out j x hx
   rw [← add_off _ _ _ (by decide)] at h2
   exact ⟨cell_later h1 hS, cell_later h2 hS, h3⟩
  ·cases hx
 intro A5 c5 w5 F5 hs5
 simp only [List.length_nil, Nat.zero_add, List.nil_append] at hs5 ⊢
 have HS5 := Aside0.mk hs5
 clear hs5
 replace hS := HS5.out.toBelow
 refine hK.out _ _ ⟨fun _ _ => hS, ?_⟩; clear hK K; (try simp only [Act.put, qqP])
 refine seqp_step rfl (fun K hK => ?_)
 refine step_shl HS5.out rfl _ _ 32 (.agg #[.int .i64 0, .slice none 0 0]) 32 (by rfl) Tryz.underlying32 (by kernel_rfl) rfl (by decide) ad2 (a.dirty.length - (q + 1)) (c2 - (q + 1)) (es.drop (q + 1)) (by rfl) (by rfl) (by simp; have := HEL.out; omega) (fun j x hx => ?_) (by simp; have := HDL.out; have := HEL.out; omega) ?_
 ·rw [List.getElem?_drop] at hx
  have hj := (List.getElem?_eq_some_iff.1 hx).1
  rw [← HAD.out, if_neg (by have := HEL.out; omega), add_two (by omega), add_two (by omega)]
  obtain ⟨h1, h2, h3⟩ := HC8.out _ x hx
  rw [← add_off _ _ _ (by decide)] at h2
  rw [show (q + 1) * 2 + j * 2 = (q + 1 + j) * 2 by omega, show (q + 1) * 2 + (j * 2 + 1) = (q + 1 + j) * 2 + 1 by omega]
  exact ⟨cell_later h1 hS, cell_later h2 hS, h3⟩
 intro A6 c6 w6 F6 hs6
 have hsum : (es.take q).length + (a.dirty.length - (q + 1)) = (es.take q ++ es.drop (q + 1)).length := by have := HEL.out; simp; omega
 have hlen2 : (es.take q ++ es.drop (q + 1)).length + 1 = es.length := by simp; omega
 have HMM := Aside0.mk (erase_mem (l := es) (q := q))
 have hq6 := SepStep.Sep.comp HS8.out hs6
 simp only [List.cons_append, List.nil_append] at hq6
 replace hS := hs6.toBelow
 clear hs6
 generalize (es.take q).length + (a.dirty.length - (q + 1)) = nn at *
 generalize es.take q ++ es.drop (q + 1) = out at *
 subst hsum
 have HS6 := Aside0.mk hq6
 clear hq6
 refine hK.out _ _ ⟨fun _ _ => hS, ?_⟩; clear hK K; (try simp only [Act.put, qqP])
 repeat ((first | (refine seqp_pure rfl (fun _ _ _ h => h) (by rfl) (fun w_ => by go_simp; first | done | with_reducible rfl) ?_) | (refine seqp_take hS rfl (fun _ _ _ h => h) (by rfl) (fun w_ hSw => by have hSc := HALL.out w_ hSw; clear hSw; go_simp; first | done | with_reducible rfl) ?_) | (refine seqp_skip2 rfl (fun _ _ _ h => h) (by rfl) ?_) | (refine seqp_skip1 hS rfl (fun _ _ _ h => h) (by rfl) ?_) | (refine seqp_skip0 rfl (by rfl) ?_)); (try simp only [Act.put, qqP]))
 clear hS HALL
 have kk := thirteen (HS6.out.get 1 rfl)
 have gz := blk_frozen (HS6.out.get 1 rfl)
 refine seqp_step rfl (fun K hK => ?_)
 go_simp
 refine hK.out _ _ ⟨(fun h => (by cases h)), ?_⟩; clear hK K; (try simp only [Act.put, qqP])
 refine seqp_done ?_
 have hq := HS6.out.setb 1 rfl 9 (.slice A6 out.length c6) rfl
 simp only [qqN, qqT] at hq
 have HE := Aside0.mk hq
 clear hq kk gz
 go_wp2
 go_ret
 rw [← HEL.out, ← HML.out, ← HDS.out] at HE
 obtain ⟨a', ⟨hg1, hl1⟩, hB1⟩ := flush_done HE.out HMM.out hlen2 rfl HGS.out
 first | exact fl_end rfl hg1 (fun _ _ => by rw [← HDS.out]; exact hl1) hB1 | exact fl_end rfl hg1 (fun _ _ => by rw [← HDS.out]; exact hl1) (Bx.drew hB1)
set_option maxHeartbeats 4000000 in
set_option maxRecDepth 100000 in
theorem c_l8All {w0 w : World} {g : Nat} {a : ArrV} {L : List Res} {b d : Int} (h : Bx w0 w g a L) (hG : Fit b d a) (hd : d ≤ 1000) (hb : b ≤ 40000) :
  Calls Tryz.prog 163 #[.pointer (some ⟨g, 0, none⟩)] w (PtR w0 g L (b + 2 * a.dirty.length) d) := by
 have HB0 := Aside0.mk (And.intro hG h)
 have hdl : (a.dirty.length : Int) ≤ 1000 := by have := hG.dl; omega
 obtain ⟨n, hn⟩ : ∃ n, a.dirty.length = n := ⟨_, rfl⟩
 rw [hn] at hdl ⊢
 have HN := Aside0.mk hn
 clear h hG hn
 go_enter Tryz.func163, Tryz.ntmps163
 go_wp2
 go_loopw [3] (fun v3 wr => ∃ a1 : ArrV, Aside0 (a1.dirty.length ≤ n) ∧ Aside0 (Fit (b + 2 * ((n : Int) - a1.dirty.length)) d a1 ∧ Bx w0 wr g a1 L)) (fun _ wr => sLen (wr.cell? ⟨g, 9, none⟩))
 case atStart => exact ⟨a, ⟨by have := HN.out; omega⟩, ⟨HB0.out.1.le (by have := HN.out; omega) (by omega), HB0.out.2⟩⟩
 case round =>
  clear HB0 HN
  obtain ⟨a1, H1, H2⟩ := hrel
  have hG := H2.out.1
  obtain ⟨hh, c1, A2, c2, F1, F2, F3, es, hel, hs⟩ := H2.out.2
  have HI := Aside0.mk hs
  have HEL := Aside0.mk hel
  clear hs hel
  simp only [arrC] at *
  have kk := thirteen (HI.out.get 0 rfl)
  have HLN := Aside0.mk (show sLen (wr.cell? ⟨g, 9, none⟩) = a1.dirty.length by rw [kk.2.2.2.2.2.2.2.2.2.1]; rfl)
  have hn1 := H1.out
  by_cases h0 : 0 < a1.dirty.length
  ·have hgt : decide ((0 : Int) < (a1.dirty.length : Int)) = true := decide_eq_true (by omega)
   have h01 : (0 : Int) < (a1.dirty.length : Int) := by omega
   obtain ⟨x, hx⟩ : ∃ x, a1.dirty[0]? = some x := ⟨_, List.getElem?_eq_getElem h0⟩
   obtain ⟨⟨s, u⟩, hu⟩ : ∃ x, es[0]? = some x := ⟨_, List.getElem?_eq_getElem (by have := HEL.out; omega)⟩
   have HX := Aside0.mk (show ∃ x ∈ a1.dirty, x.1 = s from ⟨x, List.mem_of_getElem? hx, ((HI.out.get 3 rfl : Dat wr es a1.dirty).2 0 _ _ hu hx).1.symm⟩)
   obtain ⟨ad, rfl, hc⟩ := shl_cells (HI.out.get 2 rfl) (by have := HEL.out; omega)
   obtain ⟨cn, _, _⟩ := hc 0 (s, u) hu
   replace cn : wr.cell? ad = some (.int .i64 s) := by simpa [Addr.add] using cn
   have HB1 := Aside0.mk (show Bx w0 wr g a1 L from H2.out.2)
   clear hc hx hu
   go_upto_region 3 with (first
    | (go_at_call 162; refine (c_l8Flush HB1.out hG hd (by omega)).mono ?_; rintro e w2 ⟨c, a2, rfl, ⟨hg2, hl2⟩, hB2⟩; have HG2 := Aside0.mk hg2; have HB2 := Aside0.mk hB2; have HL2 := Aside0.mk hl2; clear hg2 hB2 hl2 kk cn)
    | fail)
   by_cases hc0 : c = 0
   ·subst hc0
    have hlt := HL2.out rfl HX.out
    go_wp2
    go_roundw
    case rel => exact ⟨a2, ⟨by omega⟩, ⟨HG2.out.le (by omega) (by omega), HB2.out⟩⟩
    case measure =>
     rw [HLN.out, Bx.len HB2.out]; exact hlt
   ·have hcb : (c != 0) = true := by simp [hc0]
    go_wp2
    go_ret
    exact pt_end rfl (HG2.out.le (by omega) (by omega)) HB2.out
  ·have hgt : decide ((0 : Int) < (a1.dirty.length : Int)) = false := decide_eq_false (by omega)
   go_wp2
   go_ret
   exact pt_end rfl (hG.le (by omega) (by omega)) H2.out.2
end DFlush
end Go.Proofs.YtggmifnblcjdfaaGreat
