/- Own text: AStrW. -/
import Derived.Test.YtggmifnblcjdfaaGreatXAStrF
set_option linter.unusedVariables false
set_option linter.unusedSimpArgs false
namespace Go.Proofs.YtggmifnblcjdfaaGreat
namespace AStrW
open Go.RowKit RJ RP Go.Proofs.YtggmifnblcjdfaaGreatW.PrintWords Fp FpStep MInt MKinds MRead MMake MPut MHeld MOk MSuper Go.Proofs.YtggmifnblcjdfaaGreat.Sep SepStep AKinds AMake AEnt ALaw AArr AOk RPC MVal MRec AHole AMark AOpV AOp ASyncF AMarkV APut ASupOf AOkD AOkI AOkA AMarkF ALive AXor AGeo AStrV AStrF
theorem O_int_at2 {w : World} {e : TypeId} {F : List Nat} {g n cap q : Nat} {l : List Int} {y : Int} (h : oInt.O e w F (.slice (some ⟨g, 0, none⟩) n cap) l) (hy : l[q]? = some y) : w.cell? ⟨g, q, none⟩ = some (.int .i64 y) := by
 obtain ⟨h1, h2⟩ := List.getElem?_eq_some_iff.1 hy
 rw [← h2]; exact (O_int_cell h h1).1
theorem tdiv_no {x n : Int} (h : 0 ≤ x) : x.tmod n = x % n := Int.tmod_eq_emod_of_nonneg h
set_option maxHeartbeats 8000000 in
set_option maxRecDepth 100000 in
theorem c_implWordsF {w0 w : World} {S : List Nat} {L : List Res} {g hh n c : Nat} {F : List Nat} {vd : Value} {a : ArrV} (hs : Sep w0 S w (bx g 34 (arrC a (.slice (some ⟨hh, 0, none⟩) n c) vd) :: rw_ oMem 89 F (.slice (some ⟨hh, 0, none⟩) n c) a.mems :: L)) (hn : n = a.mems.length) (hml : a.mems.length ≤ 16777216) (hd : a.down = false) (hfu : a.fuse ≤ 1000) (hsm : ∀ m ∈ a.mems, Small m) {v : Value} {s : Int} {data : List Int} (hx : ∀ (w' : World) (M : List Res), Sep w0 S w' (M ++ L) → RK kInt w' v data) (hdr : ∀ (w' : World) (M : List Res), Sep w0 S w' (M ++ L) → RK kWr w' vd a.dirty) (hg : geoB a.gn a.gs = true) (hlen : (a.mems.length : Int) = a.gn) (hin : inR s 0 (a.gs - 1) = true) (hdl : (data.length : Int) = a.gn - 1) :
  Calls Tryz.prog 85 #[.pointer (some ⟨g, 0, none⟩), .int .i64 s, v] w fun e w' => ∃ F', e = .returned (.bool (!(datV a s data).down)) ∧ Sep w0 S w' (bx g 34 (arrC (datV a s data) (.slice (some ⟨hh, 0, none⟩) n c) vd) :: rw_ oMem 89 F' (.slice (some ⟨hh, 0, none⟩) n c) (datV a s data).mems :: L) := by
 have HSM := Aside0.mk hsm
 have HFU := Aside0.mk hfu
 have HN := Aside0.mk hn
 have HM1 := Aside0.mk hml
 have HD0 := Aside0.mk hd
 have HX := Aside0.mk hx
 have HDR := Aside0.mk hdr
 have HG := Aside0.mk hg
 have HLEN := Aside0.mk hlen
 have HIN := Aside0.mk hin
 have HDL := Aside0.mk hdl
 have H0 := Aside0.mk hs
 subst hn
 have hgn : 3 ≤ a.gn ∧ a.gn ≤ 5 := by simp [geoB, inR] at hg; omega
 obtain ⟨hg3, hg5⟩ := hgn
 obtain ⟨hp0, hp1⟩ := parN_in (st := s) (n := a.gn) ⟨hg3, hg5⟩
 obtain ⟨p, hp⟩ : ∃ p : Nat, parN a.gn s = (p : Int) := ⟨(parN a.gn s).toNat, by omega⟩
 have hpl : p < a.mems.length := by omega
 have HP := Aside0.mk hp
 have hdl2 : (data.length : Int) = (a.mems.length : Int) - 1 := by omega
 have HDL2 := Aside0.mk hdl2
 have lx := RK_len (hx w [_, _] hs)
 obtain ⟨XA, xc, rfl, hx9⟩ := id (hx w [_, _] hs)
 clear hx9 hd hfu hsm hx hdr hg hin hp hdl hp0 hp1 hdl2
 have HG3 := Aside0.mk hg3
 have HG5 := Aside0.mk hg5
 have HPL := Aside0.mk hpl
 obtain ⟨k0, k1, k2, k3, k4, k5, k6, k7, k8, k9, k10, k11, k12⟩ := thirteen (H0.out.get 0 rfl)
 clear hlen
 obtain ⟨x, hxx⟩ : ∃ x, xorL 0 data = x := ⟨_, rfl⟩
 have HXX := Aside0.mk hxx
 clear hxx
 have i0 : (0 : Int) ≤ (p : Int) := by omega
 have il : (p : Int) < (a.mems.length : Int) := by omega
 go_enter Tryz.func85, Tryz.ntmps85
 go_upto_region 3 with (first
  | (go_at_call 131; refine (c_implParityWord (HX.out _ [_, _, _] HS2.out)).mono ?_; rw [HXX.out]; rintro e w3 ⟨rfl, hb⟩; have HS3 := Aside0.mk (HS2.out.dr hb); clear hb k0 k1 k2 k3 k4 k5 k6 k7 k8 k9 k10 k11 k12; obtain ⟨k0, k1, k2, k3, k4, k5, k6, k7, k8, k9, k10, k11, k12⟩ := thirteen (HS3.out.get 1 rfl); obtain ⟨c1, c2⟩ := O_int_cell (HS3.out.get 0 rfl) (i := p) (by have := HPL.out; simp; omega))
  | (go_at_call 132; refine (c_implParityOf _ _ s _ HG.out HIN.out).mono ?_; rw [HP.out]; rintro e w2 ⟨rfl, hb⟩; have HS2 := Aside0.mk (HS1.out.below hb); clear hb k0 k1 k2 k3 k4 k5 k6 k7 k8 k9 k10 k11 k12; obtain ⟨k0, k1, k2, k3, k4, k5, k6, k7, k8, k9, k10, k11, k12⟩ := thirteen (HS2.out.get 1 rfl))
  | (at_make; refine make_sep oInt H0.out rfl rfl 28 3 _ _ rfl a.mems.length (show _ = _ from congrArg (Value.int IntKind.i64) HLEN.out.symm) (show _ = _ from congrArg (Value.int IntKind.i64) HLEN.out.symm) Tryz.underlying28 (.int .i64 0) 8 (by kernel_rfl) rfl (by decide) (by decide) 0 (fun _ => ⟨rfl, rfl⟩) (by have := HLEN.out; omega) ?_; intro w1 g1 hs1 hg1; have HS1 := Aside0.mk hs1; clear hs1 hg1 k0 k1 k2 k3 k4 k5 k6 k7 k8 k9 k10 k11 k12; obtain ⟨k0, k1, k2, k3, k4, k5, k6, k7, k8, k9, k10, k11, k12⟩ := thirteen (HS1.out.get 1 rfl))
  | fail)
 have hB := HS3.out.seti 0 rfl (j := p) (by have := HPL.out; simp; omega) x
 simp only [qqN] at hB
 have h00 : (List.replicate a.mems.length (0 : Int)).set p x = wlist a.gn s x data 0 := by rw [wlist, HP.out, ← HLEN.out]; simp
 rw [h00] at hB
 have HS4 := Aside0.mk hB
 clear hB h00 c1 c2 k0 k1 k2 k3 k4 k5 k6 k7 k8 k9 k10 k11 k12
 go_wp2
 go_loopw [30] (fun v9 wr => ∃ (i : Nat) (G : List Nat), i ≤ data.length ∧ v9 = .int .i64 i ∧ Aside0 (Sep w0 S wr (rw_ oInt 3 G (.slice (some ⟨g1, 0, none⟩) a.mems.length a.mems.length) (wlist a.gn s x data i) :: bx g 34 (arrC a (.slice (some ⟨hh, 0, none⟩) a.mems.length c) vd) :: rw_ oMem 89 F (.slice (some ⟨hh, 0, none⟩) a.mems.length c) a.mems :: L))) (fun v9 _ => data.length - (intOf v9).toNat)
 case atStart => exact ⟨0, _, by omega, rfl, HS4⟩
 case round =>
  clear HS4 i0 il
  obtain ⟨i, G, hi, rfl, HR⟩ := hrel
  by_cases hlt : i < data.length
  ·obtain ⟨d, hdi⟩ : ∃ d, data[i]? = some d := ⟨_, List.getElem?_eq_getElem hlt⟩
   obtain ⟨ad, cap, ha, hc⟩ := ints_at (HX.out _ [_, _, _] HR.out) (by omega)
   cases ha
   have ca := hc i d hdi
   have HDI := Aside0.mk hdi
   clear hdi hc
   obtain ⟨k0, k1, k2, k3, k4, k5, k6, k7, k8, k9, k10, k11, k12⟩ := thirteen (HR.out.get 1 rfl)
   obtain ⟨q0, q1⟩ := diskN_in (n := a.gn) (st := s) (i := (i : Int)) ⟨HG3.out, HG5.out⟩
   obtain ⟨q, hq⟩ : ∃ q : Nat, diskN a.gn s (i : Int) = (q : Int) := ⟨(diskN a.gn s (i : Int)).toNat, by omega⟩
   have hql : q < a.mems.length := by have := HLEN.out; omega
   have HQ := Aside0.mk hq
   have HQL := Aside0.mk hql
   have i0 : (0 : Int) ≤ (q : Int) := by omega
   have il : (q : Int) < (a.mems.length : Int) := by omega
   have j0 : (0 : Int) ≤ (i : Int) := by omega
   have jl : (i : Int) < (data.length : Int) := by omega
   clear q0 q1 hq hql
   have HIJ := Aside0.mk (show inR (i : Int) 0 (a.gn - 2) = true by have h1 := HDL2.out; have h2 := HLEN.out; simp [inR]; omega)
   go_wp2_with (first
    | (go_at_call 133; refine (c_implDiskOf _ _ s _ _ HG.out HIN.out HIJ.out).mono ?_; rw [HQ.out]; rintro e w2 ⟨rfl, hb⟩; have HS5 := Aside0.mk (HR.out.below hb); clear hb ca k0 k1 k2 k3 k4 k5 k6 k7 k8 k9 k10 k11 k12; obtain ⟨c1, c2⟩ := O_int_cell (HS5.out.get 0 rfl) (i := q) (by rw [wlist_len]; have := HLEN.out; have := HQL.out; omega))
    | fail)
   have hB := HS5.out.seti 0 rfl (j := q) (by rw [wlist_len]; have := HLEN.out; have := HQL.out; omega) d
   simp only [qqN] at hB
   have h00 : (wlist a.gn s x data i).set q d = wlist a.gn s x data (i + 1) := by rw [wlist, HQ.out]; simp [List.getD, HDI.out]
   rw [h00] at hB
   go_roundw
   case rel => exact ⟨i + 1, _, by omega, by go_num, ⟨hB⟩⟩
   case measure => simp [intOf]; omega
  ·obtain rfl : i = data.length := by omega
   obtain ⟨lst, hls⟩ : ∃ lst, wlist a.gn s x data data.length = lst := ⟨_, rfl⟩
   have hll : lst.length = a.mems.length := by rw [← hls, wlist_len]; have := HLEN.out; omega
   have HLG := Aside0.mk (show ∀ m : Nat, m < a.mems.length → lst[m]? = some (wordW a.gn s data m) from fun m hm => by rw [← hls, ← HXX.out]; exact wlist_get ⟨HG3.out, HG5.out⟩ HDL.out (by have := HLEN.out; omega))
   rw [hls] at HR
   have HLL := Aside0.mk hll
   clear hls hll lx
   go_wp2
   go_loopw [48] (fun v9 wr => ∃ (i : Nat) (st : ArrV) (F' : List Nat), i ≤ a.mems.length ∧ v9 = .int .i64 i ∧ Aside0 (datN a s data i = st) ∧ Aside0 (st.down = false) ∧ Aside0 (Sep w0 S wr (bx g 34 (arrC st (.slice (some ⟨hh, 0, none⟩) a.mems.length c) vd) :: rw_ oMem 89 F' (.slice (some ⟨hh, 0, none⟩) a.mems.length c) st.mems :: rw_ oInt 3 G (.slice (some ⟨g1, 0, none⟩) a.mems.length a.mems.length) lst :: L))) (fun v9 _ => a.mems.length - (intOf v9).toNat)
   case atStart =>
    have hB := HR.out.selT 3 [1, 2, 0] (by decide) (by simp <;> omega)
    simp only [qqN, qqT] at hB
    exact ⟨0, a, F, by omega, rfl, ⟨rfl⟩, HD0, ⟨hB⟩⟩
   case round =>
    clear HR HD0
    obtain ⟨i, st, F', hi, rfl, HST, HD, HR⟩ := hrel
    have HSAME := Aside0.mk (show Same a st by rw [← HST.out]; exact datN_same _ _ _ i)
    have hsl : st.mems.length = a.mems.length := HSAME.out.len
    have HFS := Aside0.mk (show st.fuse ≤ 1000 by rw [← HST.out]; exact datN_fuse HFU.out i)
    have HSS := Aside0.mk (show ∀ m ∈ st.mems, Small m by rw [← HST.out]; exact datN_small HSM.out i)
    have HSL := Aside0.mk hsl
    clear hsl
    by_cases hlt : i < a.mems.length
    ·obtain ⟨k0, k1, k2, k3, k4, k5, k6, k7, k8, k9, k10, k11, k12⟩ := thirteen (HR.out.get 0 rfl)
     have i0 : (0 : Int) ≤ (i : Int) := by omega
     have il : (i : Int) < (a.mems.length : Int) := by omega
     obtain ⟨wv, hwv⟩ : ∃ wv, wordW a.gn s data i = wv := ⟨_, rfl⟩
     have HWV := Aside0.mk hwv
     have c1 := O_int_at2 (HR.out.get 2 rfl) (show lst[i]? = some wv by rw [HLG.out i hlt, hwv])
     clear hwv
     by_cases hlv : liveB st (i : Int) s = true
     ·have HLV := Aside0.mk hlv
      clear hlv
      obtain ⟨nx, hnx⟩ : ∃ nx, putV st i (dataV s) [wv] = nx := ⟨_, rfl⟩
      have HNX := Aside0.mk hnx
      have HN1 := Aside0.mk (show datN a s data (i + 1) = nx by rw [datN, HST.out, HLV.out, HWV.out]; exact hnx)
      clear hnx
      cases hdn : nx.down
      ·have HDN := Aside0.mk hdn
       have hdb : (!nx.down) = true := by rw [hdn]; rfl
       clear hdn
       go_wp2_with (first
        | (go_at_call 109; have hs7 := new_lit HS6.out rfl 3 _ (l := [wv]) (n := 1) rfl rfl (by decide); have hB := hs7.selT 4 [1, 2, 0, 3] (by decide) (by simp <;> omega); simp only [qqN, qqT] at hB; refine (c_implPut (i := i) (k := dataV s) (xs := [wv]) hB HSL.out.symm (by have := HSL.out; omega) HD.out HFS.out HSS.out (by simp)).mono ?_; rw [HNX.out]; clear hs7 hB; rintro e w8 ⟨F8, rfl, hs8⟩; have hB := hs8.selT 4 [0, 1, 3] (by decide) (by simp <;> omega); simp only [qqN, qqT] at hB; have HS8 := Aside0.mk hB; clear hs8 hB)
        | (go_at_call 135; refine (c_implDataAt s _).mono ?_; rintro e w3 ⟨rfl, hb⟩; have HS6 := Aside0.mk (HS5.out.dr hb); clear hb k0 k1 k2 k3 k4 k5 k6 k7 k8 k9 k10 k11 k12; skip)
        | (go_at_call 134; refine (c_implLiveAt (m := (i : Int)) (s := s) (a := st) ⟨_, _, rfl, oMem_RK (HR.out.get 1 rfl), (by rw [HSAME.out.dirty]; exact HDR.out _ [_, _, _] HR.out)⟩).mono ?_; rw [HLV.out]; rintro e w2 ⟨rfl, hb⟩; have HS5 := Aside0.mk (HR.out.below hb); clear hb c1 k0 k1 k2 k3 k4 k5 k6 k7 k8 k9 k10 k11 k12; obtain ⟨k0, k1, k2, k3, k4, k5, k6, k7, k8, k9, k10, k11, k12⟩ := thirteen (HS5.out.get 0 rfl))
        | fail)
       go_roundw
       case rel => exact ⟨i + 1, nx, F8, by omega, by go_num, HN1, HDN, HS8⟩
       case measure => simp [intOf]; omega
      ·have HDN := Aside0.mk hdn
       have hdb : (!nx.down) = false := by rw [hdn]; rfl
       clear hdn
       have HMV := Aside0.mk (show datV a s data = nx by rw [datV_down (i := i + 1) (by rw [HN1.out]; exact HDN.out) (by omega), HN1.out])
       go_wp2_with (first
        | (go_at_call 109; have hs7 := new_lit HS6.out rfl 3 _ (l := [wv]) (n := 1) rfl rfl (by decide); have hB := hs7.selT 4 [1, 2, 0, 3] (by decide) (by simp <;> omega); simp only [qqN, qqT] at hB; refine (c_implPut (i := i) (k := dataV s) (xs := [wv]) hB HSL.out.symm (by have := HSL.out; omega) HD.out HFS.out HSS.out (by simp)).mono ?_; rw [HNX.out]; clear hs7 hB; rintro e w8 ⟨F8, rfl, hs8⟩; have hB := hs8.selT 4 [0, 1, 3] (by decide) (by simp <;> omega); simp only [qqN, qqT] at hB; have HS8 := Aside0.mk hB; clear hs8 hB)
        | (go_at_call 135; refine (c_implDataAt s _).mono ?_; rintro e w3 ⟨rfl, hb⟩; have HS6 := Aside0.mk (HS5.out.dr hb); clear hb k0 k1 k2 k3 k4 k5 k6 k7 k8 k9 k10 k11 k12; skip)
        | (go_at_call 134; refine (c_implLiveAt (m := (i : Int)) (s := s) (a := st) ⟨_, _, rfl, oMem_RK (HR.out.get 1 rfl), (by rw [HSAME.out.dirty]; exact HDR.out _ [_, _, _] HR.out)⟩).mono ?_; rw [HLV.out]; rintro e w2 ⟨rfl, hb⟩; have HS5 := Aside0.mk (HR.out.below hb); clear hb c1 k0 k1 k2 k3 k4 k5 k6 k7 k8 k9 k10 k11 k12; obtain ⟨k0, k1, k2, k3, k4, k5, k6, k7, k8, k9, k10, k11, k12⟩ := thirteen (HS5.out.get 0 rfl))
        | fail)
       go_ret
       rw [HMV.out, HDN.out]
       have hE := HS8.out.selT 3 [0, 1] (by decide) (by simp <;> omega)
       simp only [qqN, qqT] at hE
       first | exact ⟨_, rfl, hE⟩ | exact ⟨rfl, _, hE⟩
     ·have HLV := Aside0.mk (show liveB st (i : Int) s = false by simpa using hlv)
      clear hlv
      go_wp2_with (first
       | (go_at_call 134; refine (c_implLiveAt (m := (i : Int)) (s := s) (a := st) ⟨_, _, rfl, oMem_RK (HR.out.get 1 rfl), (by rw [HSAME.out.dirty]; exact HDR.out _ [_, _, _] HR.out)⟩).mono ?_; rw [HLV.out]; rintro e w2 ⟨rfl, hb⟩; have HS5 := Aside0.mk (HR.out.below hb); clear hb c1 k0 k1 k2 k3 k4 k5 k6 k7 k8 k9 k10 k11 k12; obtain ⟨k0, k1, k2, k3, k4, k5, k6, k7, k8, k9, k10, k11, k12⟩ := thirteen (HS5.out.get 0 rfl))
       | fail)
      go_roundw
      case rel => exact ⟨i + 1, st, F', by omega, by go_num, ⟨by rw [datN, HST.out, HLV.out]; rfl⟩, HD, HS5⟩
      case measure => simp [intOf]; omega
    ·obtain rfl : i = a.mems.length := by omega
     have HMV := Aside0.mk (show datV a s data = st from HST.out)
     go_wp2
     go_ret
     rw [HMV.out, HD.out]
     have hE := HR.out.selT 3 [0, 1] (by decide) (by simp <;> omega)
     simp only [qqN, qqT] at hE
     first | exact ⟨_, rfl, hE⟩ | exact ⟨rfl, _, hE⟩
set_option maxHeartbeats 8000000 in
set_option maxRecDepth 100000 in
theorem c_specDataF {w0 w : World} {S : List Nat} {L : List Res} {g hh n c : Nat} {F : List Nat} {vd : Value} {a : ArrV} (hs : Sep w0 S w (bx g 34 (arrC a (.slice (some ⟨hh, 0, none⟩) n c) vd) :: rw_ oMem 89 F (.slice (some ⟨hh, 0, none⟩) n c) a.mems :: L)) (hn : n = a.mems.length) (hml : a.mems.length ≤ 16777216) (hd : a.down = false) (hfu : a.fuse ≤ 1000) (hsm : ∀ m ∈ a.mems, Small m) {v : Value} {s : Int} {data : List Int} (hx : ∀ (w' : World) (M : List Res), Sep w0 S w' (M ++ L) → RK kInt w' v data) (hdr : ∀ (w' : World) (M : List Res), Sep w0 S w' (M ++ L) → RK kWr w' vd a.dirty) (hg : geoB a.gn a.gs = true) (hlen : (a.mems.length : Int) = a.gn) (hin : inR s 0 (a.gs - 1) = true) (hdl : (data.length : Int) = a.gn - 1) :
  Calls Tryz.prog 72 #[.pointer (some ⟨g, 0, none⟩), .int .i64 s, v] w fun e w' => ∃ F', e = .returned (.tuple #[]) ∧ Sep w0 S w' (bx g 34 (arrC (datV a s data) (.slice (some ⟨hh, 0, none⟩) n c) vd) :: rw_ oMem 89 F' (.slice (some ⟨hh, 0, none⟩) n c) (datV a s data).mems :: L) := by
 have HSM := Aside0.mk hsm
 have HFU := Aside0.mk hfu
 have HN := Aside0.mk hn
 have HM1 := Aside0.mk hml
 have HD0 := Aside0.mk hd
 have HX := Aside0.mk hx
 have HDR := Aside0.mk hdr
 have HG := Aside0.mk hg
 have HLEN := Aside0.mk hlen
 have HIN := Aside0.mk hin
 have HDL := Aside0.mk hdl
 have H0 := Aside0.mk hs
 subst hn
 have hgn : 3 ≤ a.gn ∧ a.gn ≤ 5 := by simp [geoB, inR] at hg; omega
 obtain ⟨hg3, hg5⟩ := hgn
 obtain ⟨hp0, hp1⟩ := parN_in (st := s) (n := a.gn) ⟨hg3, hg5⟩
 obtain ⟨p, hp⟩ : ∃ p : Nat, parN a.gn s = (p : Int) := ⟨(parN a.gn s).toNat, by omega⟩
 have hpl : p < a.mems.length := by omega
 have HP := Aside0.mk hp
 have hdl2 : (data.length : Int) = (a.mems.length : Int) - 1 := by omega
 have HDL2 := Aside0.mk hdl2
 have lx := RK_len (hx w [_, _] hs)
 obtain ⟨XA, xc, rfl, hx9⟩ := id (hx w [_, _] hs)
 clear hx9 hd hfu hsm hx hdr hg hin hp hdl hp0 hp1 hdl2
 have HG3 := Aside0.mk hg3
 have HG5 := Aside0.mk hg5
 have HPL := Aside0.mk hpl
 obtain ⟨k0, k1, k2, k3, k4, k5, k6, k7, k8, k9, k10, k11, k12⟩ := thirteen (H0.out.get 0 rfl)
 clear hlen lx
 go_enter Tryz.func72, Tryz.ntmps72
 go_wp2_with (first
  | (go_at_call 120; refine (c_specParityOf _ _ s _ HG.out HIN.out).mono ?_; rw [HP.out]; rintro e w2 ⟨rfl, hb⟩; have HS2 := Aside0.mk (H0.out.below hb); clear hb k0 k1 k2 k3 k4 k5 k6 k7 k8 k9 k10 k11 k12)
  | fail)
 go_loopw [7] (fun v9 wr => ∃ (i : Nat) (st : ArrV) (F' : List Nat), i ≤ a.mems.length ∧ v9 = .int .i64 i ∧ Aside0 (datN a s data i = st) ∧ Aside0 (Sep w0 S wr (bx g 34 (arrC st (.slice (some ⟨hh, 0, none⟩) a.mems.length c) vd) :: rw_ oMem 89 F' (.slice (some ⟨hh, 0, none⟩) a.mems.length c) st.mems :: L))) (fun v9 _ => a.mems.length - (intOf v9).toNat)
 case atStart => exact ⟨0, a, F, by omega, rfl, ⟨rfl⟩, HS2⟩
 case round =>
  clear HS2 HD0 H0
  obtain ⟨i, st, F', hi, rfl, HST, HR⟩ := hrel
  have HSAME := Aside0.mk (show Same a st by rw [← HST.out]; exact datN_same _ _ _ i)
  have hsl : st.mems.length = a.mems.length := HSAME.out.len
  have HFS := Aside0.mk (show st.fuse ≤ 1000 by rw [← HST.out]; exact datN_fuse HFU.out i)
  have HSS := Aside0.mk (show ∀ m ∈ st.mems, Small m by rw [← HST.out]; exact datN_small HSM.out i)
  have HSL := Aside0.mk hsl
  clear hsl
  obtain ⟨k0, k1, k2, k3, k4, k5, k6, k7, k8, k9, k10, k11, k12⟩ := thirteen (HR.out.get 0 rfl)
  by_cases hlt : i < a.mems.length
  ·have i0 : (0 : Int) ≤ (i : Int) := by omega
   have il : (i : Int) < (a.mems.length : Int) := by omega
   obtain ⟨wv, hwv⟩ : ∃ wv, wordW a.gn s data i = wv := ⟨_, rfl⟩
   have HWV := Aside0.mk hwv
   obtain ⟨lv, hlv⟩ : ∃ lv, liveB st (i : Int) s = lv := ⟨_, rfl⟩
   have HLV := Aside0.mk hlv
   clear hlv
   obtain ⟨nx, hnx⟩ : ∃ nx, putV st i (dataV s) [wv] = nx := ⟨_, rfl⟩
   have HNX := Aside0.mk hnx
   clear hnx
   by_cases hip : i = p
   ·subst hip
    have HXW := Aside0.mk (show xorL 0 data = wv by rw [← hwv, wordW, if_pos HP.out.symm])
    clear hwv
    go_upto_region 7 with (first
     | (go_at_call 121; refine (c_specParityWord (HX.out _ [_, _] HR.out)).mono ?_; rw [HXW.out]; rintro e w3 ⟨rfl, hb⟩; have HS3 := Aside0.mk (HR.out.dr hb); clear hb k0 k1 k2 k3 k4 k5 k6 k7 k8 k9 k10 k11 k12; obtain ⟨k0, k1, k2, k3, k4, k5, k6, k7, k8, k9, k10, k11, k12⟩ := thirteen (HS3.out.get 0 rfl))
     | fail)
    have HS4 := HS3
    clear HS3
    cases lv
    ·go_wp2_with (first
      | (go_at_call 122; refine (c_specLiveAt (m := (i : Int)) (s := s) (a := st) ⟨_, _, rfl, oMem_RK (HS4.out.get 1 rfl), (by rw [HSAME.out.dirty]; exact HDR.out _ [_, _] HS4.out)⟩).mono ?_; rw [HLV.out]; rintro e w5 ⟨rfl, hb⟩; have HS5 := Aside0.mk (HS4.out.below hb); clear hb k0 k1 k2 k3 k4 k5 k6 k7 k8 k9 k10 k11 k12; obtain ⟨k0, k1, k2, k3, k4, k5, k6, k7, k8, k9, k10, k11, k12⟩ := thirteen (HS5.out.get 0 rfl))
      | fail)
     go_roundw
     case rel => exact ⟨i + 1, st, F', by omega, by go_num, ⟨by rw [datN, HST.out, HLV.out]; rfl⟩, HS5⟩
     case measure => simp [intOf]; omega
    ·go_wp2_with (first
      | (go_at_call 112; have hs7 := new_lit HS6.out rfl 3 _ (l := [wv]) (n := 1) rfl rfl (by decide); have hB := hs7.selT 3 [1, 2, 0] (by decide) (by simp <;> omega); simp only [qqN, qqT] at hB; refine (c_specPut (i := i) (k := dataV s) (xs := [wv]) hB HSL.out.symm (by have := HSL.out; omega) HFS.out HSS.out (by simp)).mono ?_; rw [HNX.out]; clear hs7 hB; rintro e w8 ⟨F8, rfl, hs8⟩; have hB := hs8.selT 3 [0, 1] (by decide) (by simp <;> omega); simp only [qqN, qqT] at hB; have HS8 := Aside0.mk hB; clear hs8 hB)
      | (go_at_call 97; refine (c_specDataAt s _).mono ?_; rintro e w6 ⟨rfl, hb⟩; have HS6 := Aside0.mk (HS5.out.dr hb); clear hb k0 k1 k2 k3 k4 k5 k6 k7 k8 k9 k10 k11 k12; skip)
      | (go_at_call 122; refine (c_specLiveAt (m := (i : Int)) (s := s) (a := st) ⟨_, _, rfl, oMem_RK (HS4.out.get 1 rfl), (by rw [HSAME.out.dirty]; exact HDR.out _ [_, _] HS4.out)⟩).mono ?_; rw [HLV.out]; rintro e w5 ⟨rfl, hb⟩; have HS5 := Aside0.mk (HS4.out.below hb); clear hb k0 k1 k2 k3 k4 k5 k6 k7 k8 k9 k10 k11 k12; obtain ⟨k0, k1, k2, k3, k4, k5, k6, k7, k8, k9, k10, k11, k12⟩ := thirteen (HS5.out.get 0 rfl))
      | fail)
     go_roundw
     case rel => exact ⟨i + 1, nx, F8, by omega, by go_num, ⟨by rw [datN, HST.out, HLV.out, HWV.out]; exact HNX.out⟩, HS8⟩
     case measure => simp [intOf]; omega
   ·have hne : ¬ (i : Int) = (p : Int) := by omega
    obtain ⟨xw, hxw⟩ : ∃ xw, xorL 0 data = xw := ⟨_, rfl⟩
    have HXW := Aside0.mk hxw
    clear hxw
    have hp0 : (0 : Int) ≤ (p : Int) := by omega
    have hp1 : (p : Int) < (a.mems.length : Int) := by have := HPL.out; omega
    have hin0 : 0 ≤ (i : Int) - p - 1 + a.gn := by have := HLEN.out; omega
    have hgz : ¬ a.gn = 0 := by have := HG3.out; omega
    obtain ⟨r, hr⟩ : ∃ r : Nat, ((i : Int) - p - 1 + a.gn).tmod a.gn = (r : Int) := ⟨(((i : Int) - p - 1 + a.gn).tmod a.gn).toNat, by have := Int.tmod_nonneg a.gn hin0; omega⟩
    have hrl : r < data.length := by
     have h1 := HLEN.out
     have h2 := HDL2.out
     have h3 := HPL.out
     have h4 := HG3.out
     rw [tdiv_no hin0] at hr
     by_cases hip2 : (i : Int) < p
     ·rw [Int.emod_eq_of_lt hin0 (by omega)] at hr; omega
     ·rw [show (i : Int) - p - 1 + a.gn = ((i : Int) - p - 1) + a.gn from rfl, Int.add_emod_right, Int.emod_eq_of_lt (by omega) (by omega)] at hr; omega
    obtain ⟨d, hdi⟩ : ∃ d, data[r]? = some d := ⟨_, List.getElem?_eq_getElem hrl⟩
    have hdw : wv = d := Eq.symm <| by rw [← hwv, wordW, if_neg (by rw [HP.out]; exact hne), HP.out, ← tdiv_no hin0, hr]; simp [List.getD, hdi]
    subst hdw
    clear hwv
    have wr1 : IntKind.i64.wrap ((i : Int) - p) = (i : Int) - p := IntWalk.i64_in _ (by omega)
    have wr2 : IntKind.i64.wrap ((i : Int) - p - 1) = (i : Int) - p - 1 := IntWalk.i64_in _ (by omega)
    have wr3 : IntKind.i64.wrap ((i : Int) - p - 1 + a.gn) = (i : Int) - p - 1 + a.gn := IntWalk.i64_in _ (by have := HG5.out; omega)
    have wr4 : IntKind.i64.wrap (r : Int) = r := IntWalk.i64_in _ (by have := HDL2.out; omega)
    have r0 : (0 : Int) ≤ (r : Int) := by omega
    have rl : (r : Int) < (data.length : Int) := by omega
    obtain ⟨ad, cap, ha, hc⟩ := ints_at (HX.out _ [_, _] HR.out) (by omega)
    cases ha
    clear hc
    have HDI := Aside0.mk hdi
    clear hdi
    have HRL := Aside0.mk hrl
    clear hrl
    go_upto_region 6 with (first
     | (go_at_call 121; refine (c_specParityWord (HX.out _ [_, _] HR.out)).mono ?_; rw [HXW.out]; rintro e w3 ⟨rfl, hb⟩; have HS3 := Aside0.mk (HR.out.dr hb); clear hb k0 k1 k2 k3 k4 k5 k6 k7 k8 k9 k10 k11 k12; obtain ⟨k0, k1, k2, k3, k4, k5, k6, k7, k8, k9, k10, k11, k12⟩ := thirteen (HS3.out.get 0 rfl); obtain ⟨ad2, cap2, ha2, hc2⟩ := ints_at (HX.out _ [_, _] HS3.out) (by have := HRL.out; omega); cases ha2; have ca := hc2 r wv HDI.out; clear hc2; rw [show st.gn = a.gn from HSAME.out.gn] at k1)
     | fail)
    have HALL : ∀ w' : World, Below w3.heap.size w3 w' → (w'.cell? ⟨g, 0, none⟩ = some (.int .i64 st.id) ∧ w'.cell? ⟨g, 1, none⟩ = some (.int .i64 a.gn) ∧ w'.cell? ⟨g, 2, none⟩ = some (.int .i64 st.gs) ∧ w'.cell? ⟨g, 3, none⟩ = some (.slice (some ⟨hh, 0, none⟩) a.mems.length c) ∧ w'.cell? ⟨g, 4, none⟩ = some (.int .i64 st.lost) ∧ w'.cell? ⟨g, 5, none⟩ = some (.int .i64 st.built) ∧ w'.cell? ⟨g, 6, none⟩ = some (.int .i64 st.seq) ∧ w'.cell? ⟨g, 7, none⟩ = some (.int .i64 st.tail) ∧ w'.cell? ⟨g, 8, none⟩ = some (.int .i64 st.gen) ∧ w'.cell? ⟨g, 9, none⟩ = some (vd) ∧ w'.cell? ⟨g, 10, none⟩ = some (.int .i64 st.fuse) ∧ w'.cell? ⟨g, 11, none⟩ = some (.bool st.down) ∧ w'.cell? ⟨g, 12, none⟩ = some (.bool st.broken) ∧ w'.cell? (ad.add r) = some (.int .i64 wv)) := fun w' hb => ⟨(hb.cell (lt_of_cell k0)).trans k0, (hb.cell (lt_of_cell k1)).trans k1, (hb.cell (lt_of_cell k2)).trans k2, (hb.cell (lt_of_cell k3)).trans k3, (hb.cell (lt_of_cell k4)).trans k4, (hb.cell (lt_of_cell k5)).trans k5, (hb.cell (lt_of_cell k6)).trans k6, (hb.cell (lt_of_cell k7)).trans k7, (hb.cell (lt_of_cell k8)).trans k8, (hb.cell (lt_of_cell k9)).trans k9, (hb.cell (lt_of_cell k10)).trans k10, (hb.cell (lt_of_cell k11)).trans k11, (hb.cell (lt_of_cell k12)).trans k12, (hb.cell (lt_of_cell ca)).trans ca⟩
    replace HALL := Aside0.mk HALL
    clear ca k0 k1 k2 k3 k4 k5 k6 k7 k8 k9 k10 k11 k12
    refine wp_region_seqc (fun w' => Below w3.heap.size w3 w') [] [(0, 2), (1, 2), (2, 2), (3, 2), (4, 2), (5, 2), (6, 2), (7, 2), (8, 2), (11, 2), (12, 2), (13, 2), (14, 2), (9, 1), (10, 2), (15, 1), (16, 2), (17, 2), (18, 1), (19, 0)] (by kernel_rfl) (by kernel_rfl) ?_
    have hS : Below w3.heap.size w3 w3.drew := Below.drew (Below.refl _ _)
    repeat ((first | (refine seqp_pure rfl (fun _ _ _ h => h) (by rfl) (fun w_ => by go_simp; first | done | with_reducible rfl) ?_) | (refine seqp_take hS rfl (fun _ _ _ h => h) (by rfl) (fun w_ hSw => by have hSc := HALL.out w_ hSw; clear hSw; go_simp; first | done | with_reducible rfl) ?_) | (refine seqp_skip2 rfl (fun _ _ _ h => h) (by rfl) ?_) | (refine seqp_skip1 hS rfl (fun _ _ _ h => h) (by rfl) ?_) | (refine seqp_skip0 rfl (by rfl) ?_)); (try simp only [Act.put, qqP]))
    refine seqp_step rfl (fun K hK => ?_)
    go_simp
    refine hK.out _ _ ⟨fun _ _ => hS, ?_⟩; clear hK K; (try simp only [Act.put, qqP])
    clear hS HALL wr1 wr2 wr3 wr4 hr
    refine seqp_done ?_
    have HS4 := Aside0.mk (HS3.out.drew)
    generalize hw4 : w3.drew = w4 at *
    clear hw4
    obtain ⟨k0, k1, k2, k3, k4, k5, k6, k7, k8, k9, k10, k11, k12⟩ := thirteen (HS4.out.get 0 rfl)
    clear HS3
    cases lv
    ·go_wp2_with (first
      | (go_at_call 122; refine (c_specLiveAt (m := (i : Int)) (s := s) (a := st) ⟨_, _, rfl, oMem_RK (HS4.out.get 1 rfl), (by rw [HSAME.out.dirty]; exact HDR.out _ [_, _] HS4.out)⟩).mono ?_; rw [HLV.out]; rintro e w5 ⟨rfl, hb⟩; have HS5 := Aside0.mk (HS4.out.below hb); clear hb k0 k1 k2 k3 k4 k5 k6 k7 k8 k9 k10 k11 k12; obtain ⟨k0, k1, k2, k3, k4, k5, k6, k7, k8, k9, k10, k11, k12⟩ := thirteen (HS5.out.get 0 rfl))
      | fail)
     go_roundw
     case rel => exact ⟨i + 1, st, F', by omega, by go_num, ⟨by rw [datN, HST.out, HLV.out]; rfl⟩, HS5⟩
     case measure => simp [intOf]; omega
    ·go_wp2_with (first
      | (go_at_call 112; have hs7 := new_lit HS6.out rfl 3 _ (l := [wv]) (n := 1) rfl rfl (by decide); have hB := hs7.selT 3 [1, 2, 0] (by decide) (by simp <;> omega); simp only [qqN, qqT] at hB; refine (c_specPut (i := i) (k := dataV s) (xs := [wv]) hB HSL.out.symm (by have := HSL.out; omega) HFS.out HSS.out (by simp)).mono ?_; rw [HNX.out]; clear hs7 hB; rintro e w8 ⟨F8, rfl, hs8⟩; have hB := hs8.selT 3 [0, 1] (by decide) (by simp <;> omega); simp only [qqN, qqT] at hB; have HS8 := Aside0.mk hB; clear hs8 hB)
      | (go_at_call 97; refine (c_specDataAt s _).mono ?_; rintro e w6 ⟨rfl, hb⟩; have HS6 := Aside0.mk (HS5.out.dr hb); clear hb k0 k1 k2 k3 k4 k5 k6 k7 k8 k9 k10 k11 k12; skip)
      | (go_at_call 122; refine (c_specLiveAt (m := (i : Int)) (s := s) (a := st) ⟨_, _, rfl, oMem_RK (HS4.out.get 1 rfl), (by rw [HSAME.out.dirty]; exact HDR.out _ [_, _] HS4.out)⟩).mono ?_; rw [HLV.out]; rintro e w5 ⟨rfl, hb⟩; have HS5 := Aside0.mk (HS4.out.below hb); clear hb k0 k1 k2 k3 k4 k5 k6 k7 k8 k9 k10 k11 k12; obtain ⟨k0, k1, k2, k3, k4, k5, k6, k7, k8, k9, k10, k11, k12⟩ := thirteen (HS5.out.get 0 rfl))
      | fail)
     go_roundw
     case rel => exact ⟨i + 1, nx, F8, by omega, by go_num, ⟨by rw [datN, HST.out, HLV.out, HWV.out]; exact HNX.out⟩, HS8⟩
     case measure => simp [intOf]; omega
  ·obtain rfl : i = a.mems.length := by omega
   have HMV := Aside0.mk (show datV a s data = st from HST.out)
   go_wp2
   go_end0
   rw [HMV.out]
   first | exact ⟨_, rfl, HR.out⟩ | exact ⟨rfl, _, HR.out⟩
end AStrW
end Go.Proofs.YtggmifnblcjdfaaGreat
