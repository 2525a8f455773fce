/- Own text: AStrS. -/
import Derived.Test.YtggmifnblcjdfaaGreatXAStrW
set_option linter.unusedVariables false
set_option linter.unusedSimpArgs false
namespace Go.Proofs.YtggmifnblcjdfaaGreat
namespace AStrS
open Go.RowKit RJ RP Go.Proofs.YtggmifnblcjdfaaGreatW.PrintWords Fp FpStep MInt MKinds MRead MMake MPut MHeld MOk MSuper Go.Proofs.YtggmifnblcjdfaaGreat.Sep SepStep AKinds AMake AEnt ALaw AArr AOk RPC MVal MRec AHole AMark AOpV AOp ASyncF AMarkV APut ASupOf AOkD AOkI AOkA AMarkF ALive AXor AGeo AStrV AStrF AStrW
theorem RK_row {w0 w : World} {S : List Nat} {M L : List Res} {F : List Nat} {u : Value} {xs : List Int} (h : Sep w0 S w (M ++ (rw_ oInt 3 F u xs :: L))) : RK kInt w u xs := O_RK (show oInt.O 3 w F u xs from h.get (r := rw_ oInt 3 F u xs) M.length (by simp))
theorem strV_a {a : ArrV} {s : Int} {data : List Int} (h : (strA a).down = true) : strV a s data = strA a := by unfold strV; rw [if_pos h]
theorem strV_b {a : ArrV} {s : Int} {data : List Int} (h : (strA a).down = false) (h2 : (strB (strA a) s data).down = true) : strV a s data = strB (strA a) s data := by unfold strV; rw [if_neg (by rw [h]; simp), if_pos h2]
theorem strV_c {a : ArrV} {s : Int} {data : List Int} (h : (strA a).down = false) (h2 : (strB (strA a) s data).down = false) : strV a s data = datV (seqV (strB (strA a) s data)) s data := by unfold strV; rw [if_neg (by rw [h]; simp), if_neg (by rw [h2]; simp)]
set_option maxHeartbeats 8000000 in
set_option maxRecDepth 100000 in
theorem c_implStrF {w0 w : World} {S : List Nat} {L : List Res} {g hh n c : Nat} {F : List Nat} {vd : Value} {a : ArrV} (hs : Sep w0 S w (bx g 34 (arrC a (.slice (some ⟨hh, 0, none⟩) n c) vd) :: rw_ oMem 89 F (.slice (some ⟨hh, 0, none⟩) n c) a.mems :: L)) (hn : n = a.mems.length) (hml : a.mems.length ≤ 16777216) (hd : a.down = false) (hfu : a.fuse ≤ 1000) (hsm : ∀ m ∈ a.mems, Small m) {v : Value} {s : Int} {data : List Int} (hx : ∀ (w' : World) (M : List Res), Sep w0 S w' (M ++ L) → RK kInt w' v data) (hdr : ∀ (w' : World) (M : List Res), Sep w0 S w' (M ++ L) → RK kWr w' vd a.dirty) (hg : geoB a.gn a.gs = true) (hlen : (a.mems.length : Int) = a.gn) (hin : inR s 0 (a.gs - 1) = true) (hdl : (data.length : Int) = a.gn - 1) (hsq : 0 ≤ a.seq ∧ a.seq < 60000) (htl : 0 ≤ a.tail ∧ a.tail ≤ 60000) (hge : 0 ≤ a.gen ∧ a.gen < 60000) :
  Calls Tryz.prog 39 #[.pointer (some ⟨g, 0, none⟩), .int .i64 s, v] w fun e w' => ∃ F', e = .returned (.bool (!(strV a s data).down)) ∧ Sep w0 S w' (bx g 34 (arrC (strV a s data) (.slice (some ⟨hh, 0, none⟩) n c) vd) :: rw_ oMem 89 F' (.slice (some ⟨hh, 0, none⟩) n c) (strV a s data).mems :: L) := by
 have HSM := Aside0.mk hsm
 have HFU := Aside0.mk hfu
 have HN := Aside0.mk hn
 have HM1 := Aside0.mk hml
 have HD0 := Aside0.mk hd
 have HX := Aside0.mk hx
 have HDR := Aside0.mk hdr
 have HG := Aside0.mk hg
 have HLEN := Aside0.mk hlen
 have HIN := Aside0.mk hin
 have HDL := Aside0.mk hdl
 have HSQ := Aside0.mk hsq
 have HTL := Aside0.mk htl
 have HGE := Aside0.mk hge
 have H0 := Aside0.mk hs
 subst hn
 have hd9 : data.length ≤ 16000000 := by
  have h1 := HG.out
  have h2 := HDL.out
  simp [geoB, inR] at h1
  omega
 have HDS := Aside0.mk hd9
 clear hd9
 clear hsm hfu hd hx hdr hg hlen hin hdl hsq htl hge hs
 obtain ⟨sq0, sq1⟩ := HSQ.out
 obtain ⟨tl0, tl1⟩ := HTL.out
 have wq1 : IntKind.i64.wrap (a.seq - a.tail) = a.seq - a.tail := IntWalk.i64_in _ (by omega)
 obtain ⟨k0, k1, k2, k3, k4, k5, k6, k7, k8, k9, k10, k11, k12⟩ := thirteen (H0.out.get 0 rfl)
 by_cases hf : 4 ≤ a.seq - a.tail
 ·have hfb : decide (4 ≤ a.seq - a.tail) = true := decide_eq_true hf
  obtain ⟨b, hbb⟩ : ∃ b, checkV a = b := ⟨_, rfl⟩
  have HBV := Aside0.mk hbb
  have HSA := Aside0.mk (show strA a = b by unfold strA; rw [if_pos hf]; exact hbb)
  clear hbb
  have HBM := Aside0.mk (show Most a b by rw [← HBV.out]; exact checkV_most a)
  have HBF := Aside0.mk (show b.fuse ≤ 1000 by rw [← HBV.out]; exact checkV_fuse HFU.out)
  have HBS := Aside0.mk (show ∀ m ∈ b.mems, Small m by rw [← HBV.out]; exact checkV_small HSM.out)
  go_enter Tryz.func39, Tryz.ntmps39
  go_upto_region 1 with fail
  have HALL : ∀ w' : World, Below w.heap.size w w' → (w'.cell? ⟨g, 0, none⟩ = some (.int .i64 a.id) ∧ w'.cell? ⟨g, 1, none⟩ = some (.int .i64 a.gn) ∧ w'.cell? ⟨g, 2, none⟩ = some (.int .i64 a.gs) ∧ w'.cell? ⟨g, 3, none⟩ = some (.slice (some ⟨hh, 0, none⟩) a.mems.length c) ∧ w'.cell? ⟨g, 4, none⟩ = some (.int .i64 a.lost) ∧ w'.cell? ⟨g, 5, none⟩ = some (.int .i64 a.built) ∧ w'.cell? ⟨g, 6, none⟩ = some (.int .i64 a.seq) ∧ w'.cell? ⟨g, 7, none⟩ = some (.int .i64 a.tail) ∧ w'.cell? ⟨g, 8, none⟩ = some (.int .i64 a.gen) ∧ w'.cell? ⟨g, 9, none⟩ = some (vd) ∧ w'.cell? ⟨g, 10, none⟩ = some (.int .i64 a.fuse) ∧ w'.cell? ⟨g, 11, none⟩ = some (.bool a.down) ∧ w'.cell? ⟨g, 12, none⟩ = some (.bool a.broken)) := fun w' hb => ⟨(hb.cell (lt_of_cell k0)).trans k0, (hb.cell (lt_of_cell k1)).trans k1, (hb.cell (lt_of_cell k2)).trans k2, (hb.cell (lt_of_cell k3)).trans k3, (hb.cell (lt_of_cell k4)).trans k4, (hb.cell (lt_of_cell k5)).trans k5, (hb.cell (lt_of_cell k6)).trans k6, (hb.cell (lt_of_cell k7)).trans k7, (hb.cell (lt_of_cell k8)).trans k8, (hb.cell (lt_of_cell k9)).trans k9, (hb.cell (lt_of_cell k10)).trans k10, (hb.cell (lt_of_cell k11)).trans k11, (hb.cell (lt_of_cell k12)).trans k12⟩
  replace HALL := Aside0.mk HALL
  clear k0 k1 k2 k3 k4 k5 k6 k7 k8 k9 k10 k11 k12
  refine wp_region_seqc (fun w' => Below w.heap.size w w') [12] [(0, 2), (1, 2), (2, 2), (4, 2), (5, 2), (6, 2), (3, 1), (7, 1), (8, 2), (9, 2), (10, 2), (11, 2), (12, 0), (13, 2), (14, 2)] (by kernel_rfl) (by kernel_rfl) ?_
  have hS : Below w.heap.size w w.drew := Below.drew (Below.refl _ _)
  repeat ((first | (refine seqp_pure rfl (fun _ _ _ h => h) (by rfl) (fun w_ => by go_simp; first | done | with_reducible rfl) ?_) | (refine seqp_take hS rfl (fun _ _ _ h => h) (by rfl) (fun w_ hSw => by have hSc := HALL.out w_ hSw; clear hSw; go_simp; first | done | with_reducible rfl) ?_) | (refine seqp_skip2 rfl (fun _ _ _ h => h) (by rfl) ?_) | (refine seqp_skip1 hS rfl (fun _ _ _ h => h) (by rfl) ?_) | (refine seqp_skip0 rfl (by rfl) ?_)); (try simp only [Act.put, qqP]))
  refine seqp_step rfl (fun K hK => ?_)
  go_simp
  go_at_call 64; refine (c_implCheckF (H0.out.below hS) rfl HM1.out HD0.out HFU.out HSM.out HGE.out).mono ?_; rw [HBV.out]; rintro e w2 ⟨F2, rfl, hs2⟩; have HS2 := Aside0.mk hs2; clear hs2
  refine hK.out _ _ ⟨(fun h => (by cases h)), ?_⟩; clear hK K; (try simp only [Act.put, qqP])
  iterate 2 (refine seqp_pure rfl (fun _ _ _ h => h) (by rfl) (fun w_ => by go_simp; first | done | with_reducible rfl) ?_; (try simp only [Act.put, qqP]))
  clear hS HALL
  refine seqp_done ?_
  cases hdn : b.down
  ·have HBD := Aside0.mk hdn
   have hdb : (!b.down) = true := by rw [hdn]; rfl
   clear hdn
   obtain ⟨k0, k1, k2, k3, k4, k5, k6, k7, k8, k9, k10, k11, k12⟩ := thirteen (HS2.out.get 0 rfl)
   have HBB := Aside0.mk (show (strB b s data).down = true → strV a s data = strB b s data by rw [← HSA.out]; exact strV_b (by rw [HSA.out]; exact HBD.out))
   have HBC := Aside0.mk (show (strB b s data).down = false → strV a s data = datV (seqV (strB b s data)) s data by rw [← HSA.out]; exact strV_c (by rw [HSA.out]; exact HBD.out))
   obtain ⟨cc, hcc⟩ : ∃ cc, strB b s data = cc := ⟨_, rfl⟩
   have HCC := Aside0.mk hcc
   have HCC2 := Aside0.mk (show recV b (slotV b.seq) (putR b.seq s data) = cc from hcc)
   have HCS := Aside0.mk (show Same b cc by rw [← hcc]; exact recV_same _ _ _)
   clear hcc
   have hb0 : 0 ≤ b.seq := by have := HBM.out.seq; have := HSQ.out; omega
   have hb1 : b.seq < 60000 := by have := HBM.out.seq; have := HSQ.out; omega
   have HB01 := Aside0.mk (show 0 ≤ b.seq ∧ b.seq ≤ 60000 from ⟨hb0, by omega⟩)
   go_upto_region 3 with fail
   skip
   have HALL : ∀ w' : World, Below w2.heap.size w2 w' → (w'.cell? ⟨g, 0, none⟩ = some (.int .i64 b.id) ∧ w'.cell? ⟨g, 1, none⟩ = some (.int .i64 b.gn) ∧ w'.cell? ⟨g, 2, none⟩ = some (.int .i64 b.gs) ∧ w'.cell? ⟨g, 3, none⟩ = some (.slice (some ⟨hh, 0, none⟩) a.mems.length c) ∧ w'.cell? ⟨g, 4, none⟩ = some (.int .i64 b.lost) ∧ w'.cell? ⟨g, 5, none⟩ = some (.int .i64 b.built) ∧ w'.cell? ⟨g, 6, none⟩ = some (.int .i64 b.seq) ∧ w'.cell? ⟨g, 7, none⟩ = some (.int .i64 b.tail) ∧ w'.cell? ⟨g, 8, none⟩ = some (.int .i64 b.gen) ∧ w'.cell? ⟨g, 9, none⟩ = some (vd) ∧ w'.cell? ⟨g, 10, none⟩ = some (.int .i64 b.fuse) ∧ w'.cell? ⟨g, 11, none⟩ = some (.bool b.down) ∧ w'.cell? ⟨g, 12, none⟩ = some (.bool b.broken)) := fun w' hb => ⟨(hb.cell (lt_of_cell k0)).trans k0, (hb.cell (lt_of_cell k1)).trans k1, (hb.cell (lt_of_cell k2)).trans k2, (hb.cell (lt_of_cell k3)).trans k3, (hb.cell (lt_of_cell k4)).trans k4, (hb.cell (lt_of_cell k5)).trans k5, (hb.cell (lt_of_cell k6)).trans k6, (hb.cell (lt_of_cell k7)).trans k7, (hb.cell (lt_of_cell k8)).trans k8, (hb.cell (lt_of_cell k9)).trans k9, (hb.cell (lt_of_cell k10)).trans k10, (hb.cell (lt_of_cell k11)).trans k11, (hb.cell (lt_of_cell k12)).trans k12⟩
   replace HALL := Aside0.mk HALL
   clear k0 k1 k2 k3 k4 k5 k6 k7 k8 k9 k10 k11 k12
   refine wp_region_seqc (fun w' => Below w2.heap.size w2 w') [9] [(0, 2), (1, 2), (2, 2), (3, 2), (5, 2), (6, 2), (4, 1), (7, 0), (8, 2), (9, 0), (10, 2)] (by kernel_rfl) (by kernel_rfl) ?_
   have hS : Below w2.heap.size w2 w2.drew := Below.drew (Below.refl _ _)
   repeat ((first | (refine seqp_pure rfl (fun _ _ _ h => h) (by rfl) (fun w_ => by go_simp; first | done | with_reducible rfl) ?_) | (refine seqp_take hS rfl (fun _ _ _ h => h) (by rfl) (fun w_ hSw => by have hSc := HALL.out w_ hSw; clear hSw; go_simp; first | done | with_reducible rfl) ?_) | (refine seqp_skip2 rfl (fun _ _ _ h => h) (by rfl) ?_) | (refine seqp_skip1 hS rfl (fun _ _ _ h => h) (by rfl) ?_) | (refine seqp_skip0 rfl (by rfl) ?_)); (try simp only [Act.put, qqP]))
   refine seqp_step rfl (fun K hK => ?_)
   go_simp
   go_at_call 75; refine (c_copyInts (HX.out _ [_, _] (HS2.out.below hS)) (by have := HDS.out; omega)).mono ?_; rintro e w5 ⟨u5, F5, rfl, ho5, hf5, hb5⟩; obtain ⟨A5, c5, rfl, hz5⟩ := O_reads ho5; clear hz5; have hs5 := (HS2.out.below hS).new (new_row ho5 hf5 hb5); have hb := hb5; have hB := hs5.selT 3 [1, 2, 0] (by decide) (by simp <;> omega); simp only [qqN, qqT] at hB; have HS5 := Aside0.mk hB; clear hs5 hB ho5 hf5 hb5
   replace hS := hS.trans (hb.mono hS.size); clear hb; refine hK.out _ _ ⟨fun _ _ => hS, ?_⟩; clear hK K; (try simp only [Act.put, qqP])
   repeat ((first | (refine seqp_pure rfl (fun _ _ _ h => h) (by rfl) (fun w_ => by go_simp; first | done | with_reducible rfl) ?_) | (refine seqp_take hS rfl (fun _ _ _ h => h) (by rfl) (fun w_ hSw => by have hSc := HALL.out w_ hSw; clear hSw; go_simp; first | done | with_reducible rfl) ?_) | (refine seqp_skip2 rfl (fun _ _ _ h => h) (by rfl) ?_) | (refine seqp_skip1 hS rfl (fun _ _ _ h => h) (by rfl) ?_) | (refine seqp_skip0 rfl (by rfl) ?_)); (try simp only [Act.put, qqP]))
   refine seqp_step rfl (fun K hK => ?_)
   go_simp
   go_at_call 84; refine (c_implRecF (L := rw_ oInt 3 F5 (.slice A5 data.length c5) data :: L) HS5.out HBM.out.len.symm (by have := HBM.out.len; have := HM1.out; omega) HBD.out HBF.out HBS.out (fun w' M h => RK_row h) HB01.out HDS.out).mono ?_; rw [HCC2.out]; rintro e w6 ⟨F6, rfl, hs6⟩; have hB := hs6.selT 3 [0, 1] (by decide) (by simp <;> omega); simp only [qqN, qqT] at hB; have HS6 := Aside0.mk hB; clear hs6 hB HS5
   refine hK.out _ _ ⟨(fun h => (by cases h)), ?_⟩; clear hK K; (try simp only [Act.put, qqP])
   iterate 1 (refine seqp_pure rfl (fun _ _ _ h => h) (by rfl) (fun w_ => by go_simp; first | done | with_reducible rfl) ?_; (try simp only [Act.put, qqP]))
   clear hS HALL
   refine seqp_done ?_
   cases hdn : cc.down
   ·have HDC := Aside0.mk hdn
    have hdb : (!cc.down) = true := by rw [hdn]; rfl
    clear hdn
    obtain ⟨k0, k1, k2, k3, k4, k5, k6, k7, k8, k9, k10, k11, k12⟩ := thirteen (HS6.out.get 0 rfl)
    have gz := blk_frozen (HS6.out.get 0 rfl)
    have hc0 : 0 ≤ cc.seq := by have := HCS.out.seq; have := HB01.out; omega
    have hc1 : cc.seq ≤ 60000 := by have := HCS.out.seq; have := HB01.out; omega
    have wq2 : IntKind.i64.wrap (cc.seq + 1) = cc.seq + 1 := IntWalk.i64_in _ (by omega)
    obtain ⟨dd, hdd⟩ : ∃ dd, datV (seqV cc) s data = dd := ⟨_, rfl⟩
    have HDD := Aside0.mk hdd
    have HSV := Aside0.mk (show strV a s data = dd by rw [← hdd, ← HCC.out]; exact HBC.out (by rw [HCC.out]; exact HDC.out))
    clear hdd
    go_wp2_with (first
     | (go_at_call 85; have hB := HS6.out.setb 0 rfl 6 (.int .i64 (cc.seq + 1)) (cs' := #[.int .i64 (seqV cc).id, .int .i64 (seqV cc).gn, .int .i64 (seqV cc).gs, .slice (some ⟨hh, 0, none⟩) a.mems.length c, .int .i64 (seqV cc).lost, .int .i64 (seqV cc).built, .int .i64 (seqV cc).seq, .int .i64 (seqV cc).tail, .int .i64 (seqV cc).gen, vd, .int .i64 (seqV cc).fuse, .bool (seqV cc).down, .bool (seqV cc).broken]) rfl; simp only [List.set_cons_zero] at hB; refine (c_implWordsF (a := seqV cc) hB (HBM.out.len.symm.trans HCS.out.len.symm) (by have h1 := HCS.out.len; have h2 := HBM.out.len; have := HM1.out; simp only [seqV]; omega) HDC.out (by rw [show (seqV cc).fuse = cc.fuse from rfl, ← HCC.out]; exact recV_fuse HBF.out) (by rw [show (seqV cc).mems = cc.mems from rfl, ← HCC.out]; exact recV_small HBS.out (putR_small HDS.out)) HX.out (by rw [show (seqV cc).dirty = a.dirty from HCS.out.dirty.trans HBM.out.dirty]; exact HDR.out) (by rw [show (seqV cc).gn = a.gn from HCS.out.gn.trans HBM.out.gn, show (seqV cc).gs = a.gs from HCS.out.gs.trans HBM.out.gs]; exact HG.out) (by rw [show (seqV cc).gn = a.gn from HCS.out.gn.trans HBM.out.gn, show (seqV cc).mems.length = a.mems.length from HCS.out.len.trans HBM.out.len]; exact HLEN.out) (by rw [show (seqV cc).gs = a.gs from HCS.out.gs.trans HBM.out.gs]; exact HIN.out) (by rw [show (seqV cc).gn = a.gn from HCS.out.gn.trans HBM.out.gn]; exact HDL.out)).mono ?_; rw [HDD.out]; clear hB; rintro e w8 ⟨F8, rfl, hs8⟩; have HS8 := Aside0.mk hs8; clear hs8 gz k0 k1 k2 k3 k4 k5 k6 k7 k8 k9 k10 k11 k12)
     | fail)
    go_ret
    rw [HSV.out]
    first | exact ⟨_, rfl, HS8.out⟩ | exact ⟨rfl, _, HS8.out⟩
   ·have HDC := Aside0.mk hdn
    have hdb : (!cc.down) = false := by rw [hdn]; rfl
    clear hdn
    have HSV := Aside0.mk (show strV a s data = cc by rw [← HCC.out]; exact HBB.out (by rw [HCC.out]; exact HDC.out))
    go_wp2
    go_ret
    rw [HSV.out]
    rw [HDC.out]
    first | exact ⟨_, rfl, HS6.out⟩ | exact ⟨rfl, _, HS6.out⟩
  ·have HBD := Aside0.mk hdn
   have hdb : (!b.down) = false := by rw [hdn]; rfl
   clear hdn
   have HSV := Aside0.mk (show strV a s data = b by rw [strV_a (by rw [HSA.out]; exact HBD.out)]; exact HSA.out)
   go_wp2
   go_ret
   rw [HSV.out]
   rw [HBD.out]
   first | exact ⟨_, rfl, HS2.out⟩ | exact ⟨rfl, _, HS2.out⟩
 ·have hfb : decide (4 ≤ a.seq - a.tail) = false := decide_eq_false hf
  have HSA := Aside0.mk (show strA a = a by unfold strA; rw [if_neg hf])
  have HBM := Aside0.mk (Most.refl a)
  have HBF := HFU
  have HBS := HSM
  have HBD := HD0
  have HBB := Aside0.mk (show (strB a s data).down = true → strV a s data = strB a s data by have h := @strV_b a s data; rw [HSA.out] at h; exact h HBD.out)
  have HBC := Aside0.mk (show (strB a s data).down = false → strV a s data = datV (seqV (strB a s data)) s data by have h := @strV_c a s data; rw [HSA.out] at h; exact h HBD.out)
  go_enter Tryz.func39, Tryz.ntmps39
  go_upto_region 1 with fail
  have HALL : ∀ w' : World, Below w.heap.size w w' → (w'.cell? ⟨g, 0, none⟩ = some (.int .i64 a.id) ∧ w'.cell? ⟨g, 1, none⟩ = some (.int .i64 a.gn) ∧ w'.cell? ⟨g, 2, none⟩ = some (.int .i64 a.gs) ∧ w'.cell? ⟨g, 3, none⟩ = some (.slice (some ⟨hh, 0, none⟩) a.mems.length c) ∧ w'.cell? ⟨g, 4, none⟩ = some (.int .i64 a.lost) ∧ w'.cell? ⟨g, 5, none⟩ = some (.int .i64 a.built) ∧ w'.cell? ⟨g, 6, none⟩ = some (.int .i64 a.seq) ∧ w'.cell? ⟨g, 7, none⟩ = some (.int .i64 a.tail) ∧ w'.cell? ⟨g, 8, none⟩ = some (.int .i64 a.gen) ∧ w'.cell? ⟨g, 9, none⟩ = some (vd) ∧ w'.cell? ⟨g, 10, none⟩ = some (.int .i64 a.fuse) ∧ w'.cell? ⟨g, 11, none⟩ = some (.bool a.down) ∧ w'.cell? ⟨g, 12, none⟩ = some (.bool a.broken)) := fun w' hb => ⟨(hb.cell (lt_of_cell k0)).trans k0, (hb.cell (lt_of_cell k1)).trans k1, (hb.cell (lt_of_cell k2)).trans k2, (hb.cell (lt_of_cell k3)).trans k3, (hb.cell (lt_of_cell k4)).trans k4, (hb.cell (lt_of_cell k5)).trans k5, (hb.cell (lt_of_cell k6)).trans k6, (hb.cell (lt_of_cell k7)).trans k7, (hb.cell (lt_of_cell k8)).trans k8, (hb.cell (lt_of_cell k9)).trans k9, (hb.cell (lt_of_cell k10)).trans k10, (hb.cell (lt_of_cell k11)).trans k11, (hb.cell (lt_of_cell k12)).trans k12⟩
  replace HALL := Aside0.mk HALL
  clear k0 k1 k2 k3 k4 k5 k6 k7 k8 k9 k10 k11 k12
  refine wp_region_seqc (fun w' => Below w.heap.size w w') [12] [(0, 2), (1, 2), (2, 2), (4, 2), (5, 2), (6, 2), (3, 1), (7, 1), (8, 2), (9, 2), (10, 2), (11, 2), (12, 0), (13, 2), (14, 2)] (by kernel_rfl) (by kernel_rfl) ?_
  have hS : Below w.heap.size w w.drew := Below.drew (Below.refl _ _)
  repeat ((first | (refine seqp_pure rfl (fun _ _ _ h => h) (by rfl) (fun w_ => by go_simp; first | done | with_reducible rfl) ?_) | (refine seqp_take hS rfl (fun _ _ _ h => h) (by rfl) (fun w_ hSw => by have hSc := HALL.out w_ hSw; clear hSw; go_simp; first | done | with_reducible rfl) ?_) | (refine seqp_skip2 rfl (fun _ _ _ h => h) (by rfl) ?_) | (refine seqp_skip1 hS rfl (fun _ _ _ h => h) (by rfl) ?_) | (refine seqp_skip0 rfl (by rfl) ?_)); (try simp only [Act.put, qqP]))
  clear hS HALL
  refine seqp_done ?_
  obtain ⟨wq, hwq⟩ : ∃ wq, w.drew = wq := ⟨_, rfl⟩
  have HS2 := Aside0.mk (H0.out.dr (w' := wq) ⟨1, hwq.symm⟩)
  simp only [hwq]
  clear hwq
  obtain ⟨k0, k1, k2, k3, k4, k5, k6, k7, k8, k9, k10, k11, k12⟩ := thirteen (HS2.out.get 0 rfl)
  obtain ⟨cc, hcc⟩ : ∃ cc, strB a s data = cc := ⟨_, rfl⟩
  have HCC := Aside0.mk hcc
  have HCC2 := Aside0.mk (show recV a (slotV a.seq) (putR a.seq s data) = cc from hcc)
  have HCS := Aside0.mk (show Same a cc by rw [← hcc]; exact recV_same _ _ _)
  clear hcc
  have hb0 : 0 ≤ a.seq := by have := HBM.out.seq; have := HSQ.out; omega
  have hb1 : a.seq < 60000 := by have := HBM.out.seq; have := HSQ.out; omega
  have HB01 := Aside0.mk (show 0 ≤ a.seq ∧ a.seq ≤ 60000 from ⟨hb0, by omega⟩)
  go_upto_region 3 with fail
  skip
  have HALL : ∀ w' : World, Below wq.heap.size wq w' → (w'.cell? ⟨g, 0, none⟩ = some (.int .i64 a.id) ∧ w'.cell? ⟨g, 1, none⟩ = some (.int .i64 a.gn) ∧ w'.cell? ⟨g, 2, none⟩ = some (.int .i64 a.gs) ∧ w'.cell? ⟨g, 3, none⟩ = some (.slice (some ⟨hh, 0, none⟩) a.mems.length c) ∧ w'.cell? ⟨g, 4, none⟩ = some (.int .i64 a.lost) ∧ w'.cell? ⟨g, 5, none⟩ = some (.int .i64 a.built) ∧ w'.cell? ⟨g, 6, none⟩ = some (.int .i64 a.seq) ∧ w'.cell? ⟨g, 7, none⟩ = some (.int .i64 a.tail) ∧ w'.cell? ⟨g, 8, none⟩ = some (.int .i64 a.gen) ∧ w'.cell? ⟨g, 9, none⟩ = some (vd) ∧ w'.cell? ⟨g, 10, none⟩ = some (.int .i64 a.fuse) ∧ w'.cell? ⟨g, 11, none⟩ = some (.bool a.down) ∧ w'.cell? ⟨g, 12, none⟩ = some (.bool a.broken)) := fun w' hb => ⟨(hb.cell (lt_of_cell k0)).trans k0, (hb.cell (lt_of_cell k1)).trans k1, (hb.cell (lt_of_cell k2)).trans k2, (hb.cell (lt_of_cell k3)).trans k3, (hb.cell (lt_of_cell k4)).trans k4, (hb.cell (lt_of_cell k5)).trans k5, (hb.cell (lt_of_cell k6)).trans k6, (hb.cell (lt_of_cell k7)).trans k7, (hb.cell (lt_of_cell k8)).trans k8, (hb.cell (lt_of_cell k9)).trans k9, (hb.cell (lt_of_cell k10)).trans k10, (hb.cell (lt_of_cell k11)).trans k11, (hb.cell (lt_of_cell k12)).trans k12⟩
  replace HALL := Aside0.mk HALL
  clear k0 k1 k2 k3 k4 k5 k6 k7 k8 k9 k10 k11 k12
  refine wp_region_seqc (fun w' => Below wq.heap.size wq w') [9] [(0, 2), (1, 2), (2, 2), (3, 2), (5, 2), (6, 2), (4, 1), (7, 0), (8, 2), (9, 0), (10, 2)] (by kernel_rfl) (by kernel_rfl) ?_
  have hS : Below wq.heap.size wq wq.drew := Below.drew (Below.refl _ _)
  repeat ((first | (refine seqp_pure rfl (fun _ _ _ h => h) (by rfl) (fun w_ => by go_simp; first | done | with_reducible rfl) ?_) | (refine seqp_take hS rfl (fun _ _ _ h => h) (by rfl) (fun w_ hSw => by have hSc := HALL.out w_ hSw; clear hSw; go_simp; first | done | with_reducible rfl) ?_) | (refine seqp_skip2 rfl (fun _ _ _ h => h) (by rfl) ?_) | (refine seqp_skip1 hS rfl (fun _ _ _ h => h) (by rfl) ?_) | (refine seqp_skip0 rfl (by rfl) ?_)); (try simp only [Act.put, qqP]))
  refine seqp_step rfl (fun K hK => ?_)
  go_simp
  go_at_call 75; refine (c_copyInts (HX.out _ [_, _] (HS2.out.below hS)) (by have := HDS.out; omega)).mono ?_; rintro e w5 ⟨u5, F5, rfl, ho5, hf5, hb5⟩; obtain ⟨A5, c5, rfl, hz5⟩ := O_reads ho5; clear hz5; have hs5 := (HS2.out.below hS).new (new_row ho5 hf5 hb5); have hb := hb5; have hB := hs5.selT 3 [1, 2, 0] (by decide) (by simp <;> omega); simp only [qqN, qqT] at hB; have HS5 := Aside0.mk hB; clear hs5 hB ho5 hf5 hb5
  replace hS := hS.trans (hb.mono hS.size); clear hb; refine hK.out _ _ ⟨fun _ _ => hS, ?_⟩; clear hK K; (try simp only [Act.put, qqP])
  repeat ((first | (refine seqp_pure rfl (fun _ _ _ h => h) (by rfl) (fun w_ => by go_simp; first | done | with_reducible rfl) ?_) | (refine seqp_take hS rfl (fun _ _ _ h => h) (by rfl) (fun w_ hSw => by have hSc := HALL.out w_ hSw; clear hSw; go_simp; first | done | with_reducible rfl) ?_) | (refine seqp_skip2 rfl (fun _ _ _ h => h) (by rfl) ?_) | (refine seqp_skip1 hS rfl (fun _ _ _ h => h) (by rfl) ?_) | (refine seqp_skip0 rfl (by rfl) ?_)); (try simp only [Act.put, qqP]))
  refine seqp_step rfl (fun K hK => ?_)
  go_simp
  go_at_call 84; refine (c_implRecF (L := rw_ oInt 3 F5 (.slice A5 data.length c5) data :: L) HS5.out HBM.out.len.symm (by have := HBM.out.len; have := HM1.out; omega) HBD.out HBF.out HBS.out (fun w' M h => RK_row h) HB01.out HDS.out).mono ?_; rw [HCC2.out]; rintro e w6 ⟨F6, rfl, hs6⟩; have hB := hs6.selT 3 [0, 1] (by decide) (by simp <;> omega); simp only [qqN, qqT] at hB; have HS6 := Aside0.mk hB; clear hs6 hB HS5
  refine hK.out _ _ ⟨(fun h => (by cases h)), ?_⟩; clear hK K; (try simp only [Act.put, qqP])
  iterate 1 (refine seqp_pure rfl (fun _ _ _ h => h) (by rfl) (fun w_ => by go_simp; first | done | with_reducible rfl) ?_; (try simp only [Act.put, qqP]))
  clear hS HALL
  refine seqp_done ?_
  cases hdn : cc.down
  ·have HDC := Aside0.mk hdn
   have hdb : (!cc.down) = true := by rw [hdn]; rfl
   clear hdn
   obtain ⟨k0, k1, k2, k3, k4, k5, k6, k7, k8, k9, k10, k11, k12⟩ := thirteen (HS6.out.get 0 rfl)
   have gz := blk_frozen (HS6.out.get 0 rfl)
   have hc0 : 0 ≤ cc.seq := by have := HCS.out.seq; have := HB01.out; omega
   have hc1 : cc.seq ≤ 60000 := by have := HCS.out.seq; have := HB01.out; omega
   have wq2 : IntKind.i64.wrap (cc.seq + 1) = cc.seq + 1 := IntWalk.i64_in _ (by omega)
   obtain ⟨dd, hdd⟩ : ∃ dd, datV (seqV cc) s data = dd := ⟨_, rfl⟩
   have HDD := Aside0.mk hdd
   have HSV := Aside0.mk (show strV a s data = dd by rw [← hdd, ← HCC.out]; exact HBC.out (by rw [HCC.out]; exact HDC.out))
   clear hdd
   go_wp2_with (first
    | (go_at_call 85; have hB := HS6.out.setb 0 rfl 6 (.int .i64 (cc.seq + 1)) (cs' := #[.int .i64 (seqV cc).id, .int .i64 (seqV cc).gn, .int .i64 (seqV cc).gs, .slice (some ⟨hh, 0, none⟩) a.mems.length c, .int .i64 (seqV cc).lost, .int .i64 (seqV cc).built, .int .i64 (seqV cc).seq, .int .i64 (seqV cc).tail, .int .i64 (seqV cc).gen, vd, .int .i64 (seqV cc).fuse, .bool (seqV cc).down, .bool (seqV cc).broken]) rfl; simp only [List.set_cons_zero] at hB; refine (c_implWordsF (a := seqV cc) hB (HBM.out.len.symm.trans HCS.out.len.symm) (by have h1 := HCS.out.len; have h2 := HBM.out.len; have := HM1.out; simp only [seqV]; omega) HDC.out (by rw [show (seqV cc).fuse = cc.fuse from rfl, ← HCC.out]; exact recV_fuse HBF.out) (by rw [show (seqV cc).mems = cc.mems from rfl, ← HCC.out]; exact recV_small HBS.out (putR_small HDS.out)) HX.out (by rw [show (seqV cc).dirty = a.dirty from HCS.out.dirty.trans HBM.out.dirty]; exact HDR.out) (by rw [show (seqV cc).gn = a.gn from HCS.out.gn.trans HBM.out.gn, show (seqV cc).gs = a.gs from HCS.out.gs.trans HBM.out.gs]; exact HG.out) (by rw [show (seqV cc).gn = a.gn from HCS.out.gn.trans HBM.out.gn, show (seqV cc).mems.length = a.mems.length from HCS.out.len.trans HBM.out.len]; exact HLEN.out) (by rw [show (seqV cc).gs = a.gs from HCS.out.gs.trans HBM.out.gs]; exact HIN.out) (by rw [show (seqV cc).gn = a.gn from HCS.out.gn.trans HBM.out.gn]; exact HDL.out)).mono ?_; rw [HDD.out]; clear hB; rintro e w8 ⟨F8, rfl, hs8⟩; have HS8 := Aside0.mk hs8; clear hs8 gz k0 k1 k2 k3 k4 k5 k6 k7 k8 k9 k10 k11 k12)
    | fail)
   go_ret
   rw [HSV.out]
   first | exact ⟨_, rfl, HS8.out⟩ | exact ⟨rfl, _, HS8.out⟩
  ·have HDC := Aside0.mk hdn
   have hdb : (!cc.down) = false := by rw [hdn]; rfl
   clear hdn
   have HSV := Aside0.mk (show strV a s data = cc by rw [← HCC.out]; exact HBB.out (by rw [HCC.out]; exact HDC.out))
   go_wp2
   go_ret
   rw [HSV.out]
   rw [HDC.out]
   first | exact ⟨_, rfl, HS6.out⟩ | exact ⟨rfl, _, HS6.out⟩
set_option maxHeartbeats 8000000 in
set_option maxRecDepth 100000 in
theorem c_specStrF {w0 w : World} {S : List Nat} {L : List Res} {g hh n c : Nat} {F : List Nat} {vd : Value} {a : ArrV} (hs : Sep w0 S w (bx g 34 (arrC a (.slice (some ⟨hh, 0, none⟩) n c) vd) :: rw_ oMem 89 F (.slice (some ⟨hh, 0, none⟩) n c) a.mems :: L)) (hn : n = a.mems.length) (hml : a.mems.length ≤ 16777216) (hd : a.down = false) (hfu : a.fuse ≤ 1000) (hsm : ∀ m ∈ a.mems, Small m) {v : Value} {s : Int} {data : List Int} (hx : ∀ (w' : World) (M : List Res), Sep w0 S w' (M ++ L) → RK kInt w' v data) (hdr : ∀ (w' : World) (M : List Res), Sep w0 S w' (M ++ L) → RK kWr w' vd a.dirty) (hg : geoB a.gn a.gs = true) (hlen : (a.mems.length : Int) = a.gn) (hin : inR s 0 (a.gs - 1) = true) (hdl : (data.length : Int) = a.gn - 1) (hsq : 0 ≤ a.seq ∧ a.seq < 60000) (htl : 0 ≤ a.tail ∧ a.tail ≤ 60000) (hge : 0 ≤ a.gen ∧ a.gen < 60000) :
  Calls Tryz.prog 31 #[.pointer (some ⟨g, 0, none⟩), .int .i64 s, v] w fun e w' => ∃ F', e = .returned (.int .i64 (downC (strV a s data))) ∧ Sep w0 S w' (bx g 34 (arrC (strV a s data) (.slice (some ⟨hh, 0, none⟩) n c) vd) :: rw_ oMem 89 F' (.slice (some ⟨hh, 0, none⟩) n c) (strV a s data).mems :: L) := by
 have HSM := Aside0.mk hsm
 have HFU := Aside0.mk hfu
 have HN := Aside0.mk hn
 have HM1 := Aside0.mk hml
 have HD0 := Aside0.mk hd
 have HX := Aside0.mk hx
 have HDR := Aside0.mk hdr
 have HG := Aside0.mk hg
 have HLEN := Aside0.mk hlen
 have HIN := Aside0.mk hin
 have HDL := Aside0.mk hdl
 have HSQ := Aside0.mk hsq
 have HTL := Aside0.mk htl
 have HGE := Aside0.mk hge
 have H0 := Aside0.mk hs
 subst hn
 have hd9 : data.length ≤ 16000000 := by
  have h1 := HG.out
  have h2 := HDL.out
  simp [geoB, inR] at h1
  omega
 have HDS := Aside0.mk hd9
 clear hd9
 clear hsm hfu hd hx hdr hg hlen hin hdl hsq htl hge hs
 obtain ⟨sq0, sq1⟩ := HSQ.out
 obtain ⟨tl0, tl1⟩ := HTL.out
 have wq1 : IntKind.i64.wrap (a.seq - a.tail) = a.seq - a.tail := IntWalk.i64_in _ (by omega)
 obtain ⟨k0, k1, k2, k3, k4, k5, k6, k7, k8, k9, k10, k11, k12⟩ := thirteen (H0.out.get 0 rfl)
 by_cases hf : 4 ≤ a.seq - a.tail
 ·have hfb : decide (4 ≤ a.seq - a.tail) = true := decide_eq_true hf
  obtain ⟨b, hbb⟩ : ∃ b, checkV a = b := ⟨_, rfl⟩
  have HBV := Aside0.mk hbb
  have HSA := Aside0.mk (show strA a = b by unfold strA; rw [if_pos hf]; exact hbb)
  clear hbb
  have HBM := Aside0.mk (show Most a b by rw [← HBV.out]; exact checkV_most a)
  have HBF := Aside0.mk (show b.fuse ≤ 1000 by rw [← HBV.out]; exact checkV_fuse HFU.out)
  have HBS := Aside0.mk (show ∀ m ∈ b.mems, Small m by rw [← HBV.out]; exact checkV_small HSM.out)
  go_enter Tryz.func31, Tryz.ntmps31
  cases hdn : b.down
  ·have HBD := Aside0.mk hdn
   clear hdn
   have HBB := Aside0.mk (show (strB b s data).down = true → strV a s data = strB b s data by rw [← HSA.out]; exact strV_b (by rw [HSA.out]; exact HBD.out))
   have HBC := Aside0.mk (show (strB b s data).down = false → strV a s data = datV (seqV (strB b s data)) s data by rw [← HSA.out]; exact strV_c (by rw [HSA.out]; exact HBD.out))
   go_upto_region 1 with fail
   go_quiet (fail)
   go_upto_region 5 with (first
    | (go_at_call 65; refine (c_specCheckF (H0.out.dr ⟨_, rfl⟩) rfl HM1.out HD0.out HFU.out HSM.out HGE.out).mono ?_; rw [HBV.out]; rintro e w2 ⟨F2, rfl, hs2⟩; have HS2 := Aside0.mk hs2; clear hs2; clear k0 k1 k2 k3 k4 k5 k6 k7 k8 k9 k10 k11 k12; obtain ⟨k0, k1, k2, k3, k4, k5, k6, k7, k8, k9, k10, k11, k12⟩ := thirteen (HS2.out.get 0 rfl); rw [HBD.out] at k11)
    | fail)
   rw [← HBD.out] at k11
   obtain ⟨cc, hcc⟩ : ∃ cc, strB b s data = cc := ⟨_, rfl⟩
   have HCC := Aside0.mk hcc
   have HCC2 := Aside0.mk (show recV b (slotV b.seq) (putR b.seq s data) = cc from hcc)
   have HCS := Aside0.mk (show Same b cc by rw [← hcc]; exact recV_same _ _ _)
   clear hcc
   have hb0 : 0 ≤ b.seq := by have := HBM.out.seq; have := HSQ.out; omega
   have hb1 : b.seq < 60000 := by have := HBM.out.seq; have := HSQ.out; omega
   have HB01 := Aside0.mk (show 0 ≤ b.seq ∧ b.seq ≤ 60000 from ⟨hb0, by omega⟩)
   go_upto_region 5 with fail
   skip
   have HALL : ∀ w' : World, Below w2.heap.size w2 w' → (w'.cell? ⟨g, 0, none⟩ = some (.int .i64 b.id) ∧ w'.cell? ⟨g, 1, none⟩ = some (.int .i64 b.gn) ∧ w'.cell? ⟨g, 2, none⟩ = some (.int .i64 b.gs) ∧ w'.cell? ⟨g, 3, none⟩ = some (.slice (some ⟨hh, 0, none⟩) a.mems.length c) ∧ w'.cell? ⟨g, 4, none⟩ = some (.int .i64 b.lost) ∧ w'.cell? ⟨g, 5, none⟩ = some (.int .i64 b.built) ∧ w'.cell? ⟨g, 6, none⟩ = some (.int .i64 b.seq) ∧ w'.cell? ⟨g, 7, none⟩ = some (.int .i64 b.tail) ∧ w'.cell? ⟨g, 8, none⟩ = some (.int .i64 b.gen) ∧ w'.cell? ⟨g, 9, none⟩ = some (vd) ∧ w'.cell? ⟨g, 10, none⟩ = some (.int .i64 b.fuse) ∧ w'.cell? ⟨g, 11, none⟩ = some (.bool b.down) ∧ w'.cell? ⟨g, 12, none⟩ = some (.bool b.broken)) := fun w' hb => ⟨(hb.cell (lt_of_cell k0)).trans k0, (hb.cell (lt_of_cell k1)).trans k1, (hb.cell (lt_of_cell k2)).trans k2, (hb.cell (lt_of_cell k3)).trans k3, (hb.cell (lt_of_cell k4)).trans k4, (hb.cell (lt_of_cell k5)).trans k5, (hb.cell (lt_of_cell k6)).trans k6, (hb.cell (lt_of_cell k7)).trans k7, (hb.cell (lt_of_cell k8)).trans k8, (hb.cell (lt_of_cell k9)).trans k9, (hb.cell (lt_of_cell k10)).trans k10, (hb.cell (lt_of_cell k11)).trans k11, (hb.cell (lt_of_cell k12)).trans k12⟩
   replace HALL := Aside0.mk HALL
   clear k0 k1 k2 k3 k4 k5 k6 k7 k8 k9 k10 k11 k12
   refine wp_region_seqc (fun w' => Below w2.heap.size w2 w') [10] [(0, 2), (1, 2), (2, 2), (3, 2), (5, 2), (7, 2), (4, 1), (6, 0), (8, 0), (9, 2), (10, 0)] (by kernel_rfl) (by kernel_rfl) ?_
   have hS : Below w2.heap.size w2 w2.drew := Below.drew (Below.refl _ _)
   repeat ((first | (refine seqp_pure rfl (fun _ _ _ h => h) (by rfl) (fun w_ => by go_simp; first | done | with_reducible rfl) ?_) | (refine seqp_take hS rfl (fun _ _ _ h => h) (by rfl) (fun w_ hSw => by have hSc := HALL.out w_ hSw; clear hSw; go_simp; first | done | with_reducible rfl) ?_) | (refine seqp_skip2 rfl (fun _ _ _ h => h) (by rfl) ?_) | (refine seqp_skip1 hS rfl (fun _ _ _ h => h) (by rfl) ?_) | (refine seqp_skip0 rfl (by rfl) ?_)); (try simp only [Act.put, qqP]))
   refine seqp_step rfl (fun K hK => ?_)
   go_simp
   have hb := below_alloc (Below.refl w2.drew.heap.size w2.drew) (.cells #[] 3 (0, 0))
   have hSW := hS
   replace hS := hS.trans (hb.mono hS.size); clear hb; refine hK.out _ _ ⟨fun _ _ => hS, ?_⟩; clear hK K; (try simp only [Act.put, qqP])
   refine seqp_step rfl (fun K hK => ?_)
   refine step_copy .i64 ((Sep.start w2.drew []).lit (g := w2.drew.heap.size) rfl oInt 3) (by rfl) _ _ 28 8 (by rfl) Tryz.underlying28 (by kernel_rfl) (by decide) _ data (by rfl) (by rfl) (RK_below (HX.out _ [_, _] (HS2.out.below hSW)) (below_alloc (Below.refl _ _) _)) (by have := HDS.out; omega) ?_
   intro A5 c5 w5 F5 h5
   have hs5 := SepStep.Sep.comp (HS2.out.below hSW) h5
   replace hS := hSW.trans (h5.toBelow.mono hSW.size)
   clear h5 hSW
   refine hK.out _ _ ⟨fun _ _ => hS, ?_⟩; clear hK K; (try simp only [Act.put, qqP])
   have hB := hs5.selT 3 [1, 2, 0] (by decide) (by simp <;> omega)
   simp only [qqN, qqT] at hB
   have HS5 := Aside0.mk hB
   clear hs5 hB
   repeat ((first | (refine seqp_pure rfl (fun _ _ _ h => h) (by rfl) (fun w_ => by go_simp; first | done | with_reducible rfl) ?_) | (refine seqp_take hS rfl (fun _ _ _ h => h) (by rfl) (fun w_ hSw => by have hSc := HALL.out w_ hSw; clear hSw; go_simp; first | done | with_reducible rfl) ?_) | (refine seqp_skip2 rfl (fun _ _ _ h => h) (by rfl) ?_) | (refine seqp_skip1 hS rfl (fun _ _ _ h => h) (by rfl) ?_) | (refine seqp_skip0 rfl (by rfl) ?_)); (try simp only [Act.put, qqP]))
   refine seqp_step rfl (fun K hK => ?_)
   go_simp
   go_at_call 71; refine (c_specRecF (L := rw_ oInt 3 F5 (.slice A5 data.length c5) data :: L) HS5.out HBM.out.len.symm (by have := HBM.out.len; have := HM1.out; omega) HBD.out HBF.out HBS.out (fun w' M h => RK_row h) HB01.out HDS.out).mono ?_; rw [HCC2.out]; rintro e w6 ⟨F6, rfl, hs6⟩; have hB := hs6.selT 3 [0, 1] (by decide) (by simp <;> omega); simp only [qqN, qqT] at hB; have HS6 := Aside0.mk hB; clear hs6 hB HS5
   refine hK.out _ _ ⟨(fun h => (by cases h)), ?_⟩; clear hK K; (try simp only [Act.put, qqP])
   clear hS HALL
   refine seqp_done ?_
   cases hdn : cc.down
   ·have HDC := Aside0.mk hdn
    have hdb : (!cc.down) = true := by rw [hdn]; rfl
    clear hdn
    obtain ⟨k0, k1, k2, k3, k4, k5, k6, k7, k8, k9, k10, k11, k12⟩ := thirteen (HS6.out.get 0 rfl)
    have gz := blk_frozen (HS6.out.get 0 rfl)
    have hc0 : 0 ≤ cc.seq := by have := HCS.out.seq; have := HB01.out; omega
    have hc1 : cc.seq ≤ 60000 := by have := HCS.out.seq; have := HB01.out; omega
    have wq2 : IntKind.i64.wrap (cc.seq + 1) = cc.seq + 1 := IntWalk.i64_in _ (by omega)
    rw [HDC.out] at k11
    obtain ⟨dd, hdd⟩ : ∃ dd, datV (seqV cc) s data = dd := ⟨_, rfl⟩
    have HDD := Aside0.mk hdd
    have HSV := Aside0.mk (show strV a s data = dd by rw [← hdd, ← HCC.out]; exact HBC.out (by rw [HCC.out]; exact HDC.out))
    clear hdd
    cases hdq : dd.down
    ·have HDQ := Aside0.mk hdq
     clear hdq
     go_wp2_with (first
      | (go_at_call 72; have hB := HS6.out.setb 0 rfl 6 (.int .i64 (cc.seq + 1)) (cs' := #[.int .i64 (seqV cc).id, .int .i64 (seqV cc).gn, .int .i64 (seqV cc).gs, .slice (some ⟨hh, 0, none⟩) a.mems.length c, .int .i64 (seqV cc).lost, .int .i64 (seqV cc).built, .int .i64 (seqV cc).seq, .int .i64 (seqV cc).tail, .int .i64 (seqV cc).gen, vd, .int .i64 (seqV cc).fuse, .bool (seqV cc).down, .bool (seqV cc).broken]) rfl; simp only [List.set_cons_zero] at hB; refine (c_specDataF (a := seqV cc) hB (HBM.out.len.symm.trans HCS.out.len.symm) (by have h1 := HCS.out.len; have h2 := HBM.out.len; have := HM1.out; simp only [seqV]; omega) HDC.out (by rw [show (seqV cc).fuse = cc.fuse from rfl, ← HCC.out]; exact recV_fuse HBF.out) (by rw [show (seqV cc).mems = cc.mems from rfl, ← HCC.out]; exact recV_small HBS.out (putR_small HDS.out)) HX.out (by rw [show (seqV cc).dirty = a.dirty from HCS.out.dirty.trans HBM.out.dirty]; exact HDR.out) (by rw [show (seqV cc).gn = a.gn from HCS.out.gn.trans HBM.out.gn, show (seqV cc).gs = a.gs from HCS.out.gs.trans HBM.out.gs]; exact HG.out) (by rw [show (seqV cc).gn = a.gn from HCS.out.gn.trans HBM.out.gn, show (seqV cc).mems.length = a.mems.length from HCS.out.len.trans HBM.out.len]; exact HLEN.out) (by rw [show (seqV cc).gs = a.gs from HCS.out.gs.trans HBM.out.gs]; exact HIN.out) (by rw [show (seqV cc).gn = a.gn from HCS.out.gn.trans HBM.out.gn]; exact HDL.out)).mono ?_; rw [HDD.out]; clear hB; rintro e w8 ⟨F8, rfl, hs8⟩; have HS8 := Aside0.mk hs8; clear hs8 gz k0 k1 k2 k3 k4 k5 k6 k7 k8 k9 k10 k11 k12; obtain ⟨k0, k1, k2, k3, k4, k5, k6, k7, k8, k9, k10, k11, k12⟩ := thirteen (HS8.out.get 0 rfl); rw [HDQ.out] at k11)
      | fail)
     go_ret
     rw [HSV.out]
     rw [downC_no HDQ.out]
     first | exact ⟨_, rfl, HS8.out⟩ | exact ⟨rfl, _, HS8.out⟩
    ·have HDQ := Aside0.mk hdq
     clear hdq
     go_wp2_with (first
      | (go_at_call 72; have hB := HS6.out.setb 0 rfl 6 (.int .i64 (cc.seq + 1)) (cs' := #[.int .i64 (seqV cc).id, .int .i64 (seqV cc).gn, .int .i64 (seqV cc).gs, .slice (some ⟨hh, 0, none⟩) a.mems.length c, .int .i64 (seqV cc).lost, .int .i64 (seqV cc).built, .int .i64 (seqV cc).seq, .int .i64 (seqV cc).tail, .int .i64 (seqV cc).gen, vd, .int .i64 (seqV cc).fuse, .bool (seqV cc).down, .bool (seqV cc).broken]) rfl; simp only [List.set_cons_zero] at hB; refine (c_specDataF (a := seqV cc) hB (HBM.out.len.symm.trans HCS.out.len.symm) (by have h1 := HCS.out.len; have h2 := HBM.out.len; have := HM1.out; simp only [seqV]; omega) HDC.out (by rw [show (seqV cc).fuse = cc.fuse from rfl, ← HCC.out]; exact recV_fuse HBF.out) (by rw [show (seqV cc).mems = cc.mems from rfl, ← HCC.out]; exact recV_small HBS.out (putR_small HDS.out)) HX.out (by rw [show (seqV cc).dirty = a.dirty from HCS.out.dirty.trans HBM.out.dirty]; exact HDR.out) (by rw [show (seqV cc).gn = a.gn from HCS.out.gn.trans HBM.out.gn, show (seqV cc).gs = a.gs from HCS.out.gs.trans HBM.out.gs]; exact HG.out) (by rw [show (seqV cc).gn = a.gn from HCS.out.gn.trans HBM.out.gn, show (seqV cc).mems.length = a.mems.length from HCS.out.len.trans HBM.out.len]; exact HLEN.out) (by rw [show (seqV cc).gs = a.gs from HCS.out.gs.trans HBM.out.gs]; exact HIN.out) (by rw [show (seqV cc).gn = a.gn from HCS.out.gn.trans HBM.out.gn]; exact HDL.out)).mono ?_; rw [HDD.out]; clear hB; rintro e w8 ⟨F8, rfl, hs8⟩; have HS8 := Aside0.mk hs8; clear hs8 gz k0 k1 k2 k3 k4 k5 k6 k7 k8 k9 k10 k11 k12; obtain ⟨k0, k1, k2, k3, k4, k5, k6, k7, k8, k9, k10, k11, k12⟩ := thirteen (HS8.out.get 0 rfl); rw [HDQ.out] at k11)
      | fail)
     go_ret
     rw [HSV.out]
     rw [downC_yes HDQ.out]
     first | exact ⟨_, rfl, HS8.out⟩ | exact ⟨rfl, _, HS8.out⟩
   ·have HDC := Aside0.mk hdn
    have hdb : (!cc.down) = false := by rw [hdn]; rfl
    clear hdn
    obtain ⟨k0, k1, k2, k3, k4, k5, k6, k7, k8, k9, k10, k11, k12⟩ := thirteen (HS6.out.get 0 rfl)
    rw [HDC.out] at k11
    have HSV := Aside0.mk (show strV a s data = cc by rw [← HCC.out]; exact HBB.out (by rw [HCC.out]; exact HDC.out))
    go_wp2
    go_ret
    rw [HSV.out]
    rw [downC_yes HDC.out]
    first | exact ⟨_, rfl, HS6.out⟩ | exact ⟨rfl, _, HS6.out⟩
  ·have HBD := Aside0.mk hdn
   clear hdn
   have HSV := Aside0.mk (show strV a s data = b by rw [strV_a (by rw [HSA.out]; exact HBD.out)]; exact HSA.out)
   go_upto_region 1 with fail
   go_quiet (fail)
   go_wp2_with (first
    | (go_at_call 65; refine (c_specCheckF (H0.out.dr ⟨_, rfl⟩) rfl HM1.out HD0.out HFU.out HSM.out HGE.out).mono ?_; rw [HBV.out]; rintro e w2 ⟨F2, rfl, hs2⟩; have HS2 := Aside0.mk hs2; clear hs2; clear k0 k1 k2 k3 k4 k5 k6 k7 k8 k9 k10 k11 k12; obtain ⟨k0, k1, k2, k3, k4, k5, k6, k7, k8, k9, k10, k11, k12⟩ := thirteen (HS2.out.get 0 rfl); rw [HBD.out] at k11)
    | fail)
   go_ret
   rw [HSV.out]
   rw [downC_yes HBD.out]
   first | exact ⟨_, rfl, HS2.out⟩ | exact ⟨rfl, _, HS2.out⟩
 ·have hfb : decide (4 ≤ a.seq - a.tail) = false := decide_eq_false hf
  have HSA := Aside0.mk (show strA a = a by unfold strA; rw [if_neg hf])
  have HBM := Aside0.mk (Most.refl a)
  have HBF := HFU
  have HBS := HSM
  have HBD := HD0
  have HBB := Aside0.mk (show (strB a s data).down = true → strV a s data = strB a s data by have h := @strV_b a s data; rw [HSA.out] at h; exact h HBD.out)
  have HBC := Aside0.mk (show (strB a s data).down = false → strV a s data = datV (seqV (strB a s data)) s data by have h := @strV_c a s data; rw [HSA.out] at h; exact h HBD.out)
  go_enter Tryz.func31, Tryz.ntmps31
  go_upto_region 1 with fail
  go_quiet (fail)
  obtain ⟨wq, hwq⟩ : ∃ wq, w.drewN nq = wq := ⟨_, rfl⟩
  have HS2 := Aside0.mk (H0.out.dr (w' := wq) ⟨nq, hwq.symm⟩)
  simp only [hwq]
  clear hwq k0 k1 k2 k3 k4 k5 k6 k7 k8 k9 k10 k11 k12
  obtain ⟨k0, k1, k2, k3, k4, k5, k6, k7, k8, k9, k10, k11, k12⟩ := thirteen (HS2.out.get 0 rfl)
  rw [HBD.out] at k11
  go_upto_region 5 with fail
  rw [← HBD.out] at k11
  obtain ⟨cc, hcc⟩ : ∃ cc, strB a s data = cc := ⟨_, rfl⟩
  have HCC := Aside0.mk hcc
  have HCC2 := Aside0.mk (show recV a (slotV a.seq) (putR a.seq s data) = cc from hcc)
  have HCS := Aside0.mk (show Same a cc by rw [← hcc]; exact recV_same _ _ _)
  clear hcc
  have hb0 : 0 ≤ a.seq := by have := HBM.out.seq; have := HSQ.out; omega
  have hb1 : a.seq < 60000 := by have := HBM.out.seq; have := HSQ.out; omega
  have HB01 := Aside0.mk (show 0 ≤ a.seq ∧ a.seq ≤ 60000 from ⟨hb0, by omega⟩)
  go_upto_region 5 with fail
  skip
  have HALL : ∀ w' : World, Below wq.heap.size wq w' → (w'.cell? ⟨g, 0, none⟩ = some (.int .i64 a.id) ∧ w'.cell? ⟨g, 1, none⟩ = some (.int .i64 a.gn) ∧ w'.cell? ⟨g, 2, none⟩ = some (.int .i64 a.gs) ∧ w'.cell? ⟨g, 3, none⟩ = some (.slice (some ⟨hh, 0, none⟩) a.mems.length c) ∧ w'.cell? ⟨g, 4, none⟩ = some (.int .i64 a.lost) ∧ w'.cell? ⟨g, 5, none⟩ = some (.int .i64 a.built) ∧ w'.cell? ⟨g, 6, none⟩ = some (.int .i64 a.seq) ∧ w'.cell? ⟨g, 7, none⟩ = some (.int .i64 a.tail) ∧ w'.cell? ⟨g, 8, none⟩ = some (.int .i64 a.gen) ∧ w'.cell? ⟨g, 9, none⟩ = some (vd) ∧ w'.cell? ⟨g, 10, none⟩ = some (.int .i64 a.fuse) ∧ w'.cell? ⟨g, 11, none⟩ = some (.bool a.down) ∧ w'.cell? ⟨g, 12, none⟩ = some (.bool a.broken)) := fun w' hb => ⟨(hb.cell (lt_of_cell k0)).trans k0, (hb.cell (lt_of_cell k1)).trans k1, (hb.cell (lt_of_cell k2)).trans k2, (hb.cell (lt_of_cell k3)).trans k3, (hb.cell (lt_of_cell k4)).trans k4, (hb.cell (lt_of_cell k5)).trans k5, (hb.cell (lt_of_cell k6)).trans k6, (hb.cell (lt_of_cell k7)).trans k7, (hb.cell (lt_of_cell k8)).trans k8, (hb.cell (lt_of_cell k9)).trans k9, (hb.cell (lt_of_cell k10)).trans k10, (hb.cell (lt_of_cell k11)).trans k11, (hb.cell (lt_of_cell k12)).trans k12⟩
  replace HALL := Aside0.mk HALL
  clear k0 k1 k2 k3 k4 k5 k6 k7 k8 k9 k10 k11 k12
  refine wp_region_seqc (fun w' => Below wq.heap.size wq w') [10] [(0, 2), (1, 2), (2, 2), (3, 2), (5, 2), (7, 2), (4, 1), (6, 0), (8, 0), (9, 2), (10, 0)] (by kernel_rfl) (by kernel_rfl) ?_
  have hS : Below wq.heap.size wq wq.drew := Below.drew (Below.refl _ _)
  repeat ((first | (refine seqp_pure rfl (fun _ _ _ h => h) (by rfl) (fun w_ => by go_simp; first | done | with_reducible rfl) ?_) | (refine seqp_take hS rfl (fun _ _ _ h => h) (by rfl) (fun w_ hSw => by have hSc := HALL.out w_ hSw; clear hSw; go_simp; first | done | with_reducible rfl) ?_) | (refine seqp_skip2 rfl (fun _ _ _ h => h) (by rfl) ?_) | (refine seqp_skip1 hS rfl (fun _ _ _ h => h) (by rfl) ?_) | (refine seqp_skip0 rfl (by rfl) ?_)); (try simp only [Act.put, qqP]))
  refine seqp_step rfl (fun K hK => ?_)
  go_simp
  have hb := below_alloc (Below.refl wq.drew.heap.size wq.drew) (.cells #[] 3 (0, 0))
  have hSW := hS
  replace hS := hS.trans (hb.mono hS.size); clear hb; refine hK.out _ _ ⟨fun _ _ => hS, ?_⟩; clear hK K; (try simp only [Act.put, qqP])
  refine seqp_step rfl (fun K hK => ?_)
  refine step_copy .i64 ((Sep.start wq.drew []).lit (g := wq.drew.heap.size) rfl oInt 3) (by rfl) _ _ 28 8 (by rfl) Tryz.underlying28 (by kernel_rfl) (by decide) _ data (by rfl) (by rfl) (RK_below (HX.out _ [_, _] (HS2.out.below hSW)) (below_alloc (Below.refl _ _) _)) (by have := HDS.out; omega) ?_
  intro A5 c5 w5 F5 h5
  have hs5 := SepStep.Sep.comp (HS2.out.below hSW) h5
  replace hS := hSW.trans (h5.toBelow.mono hSW.size)
  clear h5 hSW
  refine hK.out _ _ ⟨fun _ _ => hS, ?_⟩; clear hK K; (try simp only [Act.put, qqP])
  have hB := hs5.selT 3 [1, 2, 0] (by decide) (by simp <;> omega)
  simp only [qqN, qqT] at hB
  have HS5 := Aside0.mk hB
  clear hs5 hB
  repeat ((first | (refine seqp_pure rfl (fun _ _ _ h => h) (by rfl) (fun w_ => by go_simp; first | done | with_reducible rfl) ?_) | (refine seqp_take hS rfl (fun _ _ _ h => h) (by rfl) (fun w_ hSw => by have hSc := HALL.out w_ hSw; clear hSw; go_simp; first | done | with_reducible rfl) ?_) | (refine seqp_skip2 rfl (fun _ _ _ h => h) (by rfl) ?_) | (refine seqp_skip1 hS rfl (fun _ _ _ h => h) (by rfl) ?_) | (refine seqp_skip0 rfl (by rfl) ?_)); (try simp only [Act.put, qqP]))
  refine seqp_step rfl (fun K hK => ?_)
  go_simp
  go_at_call 71; refine (c_specRecF (L := rw_ oInt 3 F5 (.slice A5 data.length c5) data :: L) HS5.out HBM.out.len.symm (by have := HBM.out.len; have := HM1.out; omega) HBD.out HBF.out HBS.out (fun w' M h => RK_row h) HB01.out HDS.out).mono ?_; rw [HCC2.out]; rintro e w6 ⟨F6, rfl, hs6⟩; have hB := hs6.selT 3 [0, 1] (by decide) (by simp <;> omega); simp only [qqN, qqT] at hB; have HS6 := Aside0.mk hB; clear hs6 hB HS5
  refine hK.out _ _ ⟨(fun h => (by cases h)), ?_⟩; clear hK K; (try simp only [Act.put, qqP])
  clear hS HALL
  refine seqp_done ?_
  cases hdn : cc.down
  ·have HDC := Aside0.mk hdn
   have hdb : (!cc.down) = true := by rw [hdn]; rfl
   clear hdn
   obtain ⟨k0, k1, k2, k3, k4, k5, k6, k7, k8, k9, k10, k11, k12⟩ := thirteen (HS6.out.get 0 rfl)
   have gz := blk_frozen (HS6.out.get 0 rfl)
   have hc0 : 0 ≤ cc.seq := by have := HCS.out.seq; have := HB01.out; omega
   have hc1 : cc.seq ≤ 60000 := by have := HCS.out.seq; have := HB01.out; omega
   have wq2 : IntKind.i64.wrap (cc.seq + 1) = cc.seq + 1 := IntWalk.i64_in _ (by omega)
   rw [HDC.out] at k11
   obtain ⟨dd, hdd⟩ : ∃ dd, datV (seqV cc) s data = dd := ⟨_, rfl⟩
   have HDD := Aside0.mk hdd
   have HSV := Aside0.mk (show strV a s data = dd by rw [← hdd, ← HCC.out]; exact HBC.out (by rw [HCC.out]; exact HDC.out))
   clear hdd
   cases hdq : dd.down
   ·have HDQ := Aside0.mk hdq
    clear hdq
    go_wp2_with (first
     | (go_at_call 72; have hB := HS6.out.setb 0 rfl 6 (.int .i64 (cc.seq + 1)) (cs' := #[.int .i64 (seqV cc).id, .int .i64 (seqV cc).gn, .int .i64 (seqV cc).gs, .slice (some ⟨hh, 0, none⟩) a.mems.length c, .int .i64 (seqV cc).lost, .int .i64 (seqV cc).built, .int .i64 (seqV cc).seq, .int .i64 (seqV cc).tail, .int .i64 (seqV cc).gen, vd, .int .i64 (seqV cc).fuse, .bool (seqV cc).down, .bool (seqV cc).broken]) rfl; simp only [List.set_cons_zero] at hB; refine (c_specDataF (a := seqV cc) hB (HBM.out.len.symm.trans HCS.out.len.symm) (by have h1 := HCS.out.len; have h2 := HBM.out.len; have := HM1.out; simp only [seqV]; omega) HDC.out (by rw [show (seqV cc).fuse = cc.fuse from rfl, ← HCC.out]; exact recV_fuse HBF.out) (by rw [show (seqV cc).mems = cc.mems from rfl, ← HCC.out]; exact recV_small HBS.out (putR_small HDS.out)) HX.out (by rw [show (seqV cc).dirty = a.dirty from HCS.out.dirty.trans HBM.out.dirty]; exact HDR.out) (by rw [show (seqV cc).gn = a.gn from HCS.out.gn.trans HBM.out.gn, show (seqV cc).gs = a.gs from HCS.out.gs.trans HBM.out.gs]; exact HG.out) (by rw [show (seqV cc).gn = a.gn from HCS.out.gn.trans HBM.out.gn, show (seqV cc).mems.length = a.mems.length from HCS.out.len.trans HBM.out.len]; exact HLEN.out) (by rw [show (seqV cc).gs = a.gs from HCS.out.gs.trans HBM.out.gs]; exact HIN.out) (by rw [show (seqV cc).gn = a.gn from HCS.out.gn.trans HBM.out.gn]; exact HDL.out)).mono ?_; rw [HDD.out]; clear hB; rintro e w8 ⟨F8, rfl, hs8⟩; have HS8 := Aside0.mk hs8; clear hs8 gz k0 k1 k2 k3 k4 k5 k6 k7 k8 k9 k10 k11 k12; obtain ⟨k0, k1, k2, k3, k4, k5, k6, k7, k8, k9, k10, k11, k12⟩ := thirteen (HS8.out.get 0 rfl); rw [HDQ.out] at k11)
     | fail)
    go_ret
    rw [HSV.out]
    rw [downC_no HDQ.out]
    first | exact ⟨_, rfl, HS8.out⟩ | exact ⟨rfl, _, HS8.out⟩
   ·have HDQ := Aside0.mk hdq
    clear hdq
    go_wp2_with (first
     | (go_at_call 72; have hB := HS6.out.setb 0 rfl 6 (.int .i64 (cc.seq + 1)) (cs' := #[.int .i64 (seqV cc).id, .int .i64 (seqV cc).gn, .int .i64 (seqV cc).gs, .slice (some ⟨hh, 0, none⟩) a.mems.length c, .int .i64 (seqV cc).lost, .int .i64 (seqV cc).built, .int .i64 (seqV cc).seq, .int .i64 (seqV cc).tail, .int .i64 (seqV cc).gen, vd, .int .i64 (seqV cc).fuse, .bool (seqV cc).down, .bool (seqV cc).broken]) rfl; simp only [List.set_cons_zero] at hB; refine (c_specDataF (a := seqV cc) hB (HBM.out.len.symm.trans HCS.out.len.symm) (by have h1 := HCS.out.len; have h2 := HBM.out.len; have := HM1.out; simp only [seqV]; omega) HDC.out (by rw [show (seqV cc).fuse = cc.fuse from rfl, ← HCC.out]; exact recV_fuse HBF.out) (by rw [show (seqV cc).mems = cc.mems from rfl, ← HCC.out]; exact recV_small HBS.out (putR_small HDS.out)) HX.out (by rw [show (seqV cc).dirty = a.dirty from HCS.out.dirty.trans HBM.out.dirty]; exact HDR.out) (by rw [show (seqV cc).gn = a.gn from HCS.out.gn.trans HBM.out.gn, show (seqV cc).gs = a.gs from HCS.out.gs.trans HBM.out.gs]; exact HG.out) (by rw [show (seqV cc).gn = a.gn from HCS.out.gn.trans HBM.out.gn, show (seqV cc).mems.length = a.mems.length from HCS.out.len.trans HBM.out.len]; exact HLEN.out) (by rw [show (seqV cc).gs = a.gs from HCS.out.gs.trans HBM.out.gs]; exact HIN.out) (by rw [show (seqV cc).gn = a.gn from HCS.out.gn.trans HBM.out.gn]; exact HDL.out)).mono ?_; rw [HDD.out]; clear hB; rintro e w8 ⟨F8, rfl, hs8⟩; have HS8 := Aside0.mk hs8; clear hs8 gz k0 k1 k2 k3 k4 k5 k6 k7 k8 k9 k10 k11 k12; obtain ⟨k0, k1, k2, k3, k4, k5, k6, k7, k8, k9, k10, k11, k12⟩ := thirteen (HS8.out.get 0 rfl); rw [HDQ.out] at k11)
     | fail)
    go_ret
    rw [HSV.out]
    rw [downC_yes HDQ.out]
    first | exact ⟨_, rfl, HS8.out⟩ | exact ⟨rfl, _, HS8.out⟩
  ·have HDC := Aside0.mk hdn
   have hdb : (!cc.down) = false := by rw [hdn]; rfl
   clear hdn
   obtain ⟨k0, k1, k2, k3, k4, k5, k6, k7, k8, k9, k10, k11, k12⟩ := thirteen (HS6.out.get 0 rfl)
   rw [HDC.out] at k11
   have HSV := Aside0.mk (show strV a s data = cc by rw [← HCC.out]; exact HBB.out (by rw [HCC.out]; exact HDC.out))
   go_wp2
   go_ret
   rw [HSV.out]
   rw [downC_yes HDC.out]
   first | exact ⟨_, rfl, HS6.out⟩ | exact ⟨rfl, _, HS6.out⟩
end AStrS
end Go.Proofs.YtggmifnblcjdfaaGreat
