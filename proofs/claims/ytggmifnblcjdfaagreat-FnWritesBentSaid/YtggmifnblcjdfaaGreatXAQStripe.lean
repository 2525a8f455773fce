/- Own text: AQStripe. -/
import Derived.Test.YtggmifnblcjdfaaGreatXAStrS
import Derived.Test.YtggmifnblcjdfaaGreatXACopy
import Derived.Laws.Tables
set_option linter.unusedVariables false
set_option linter.unusedSimpArgs false
namespace Go.Proofs.YtggmifnblcjdfaaGreat
namespace AQStripe
open Go.RowKit RJ RP Go.Proofs.YtggmifnblcjdfaaGreatW.PrintWords Fp FpStep MInt MKinds MRead MMake MPut MHeld MOk MSuper Go.Proofs.YtggmifnblcjdfaaGreat.Sep SepStep AKinds AMake AEnt ALaw AArr AOk RPC MVal MRec AHole AMark AOpV AOp ASyncF AMarkV APut ASupOf AOkD AOkI AOkA AMarkF ALive AXor AGeo AStrV AStrF AStrW AStrS ACopy
theorem Sep.box13 {w0 w : World} {S : List Nat} {L : List Res} (h : Sep w0 S w L) (i : Nat) {g : Nat} {t : TypeId} {a0 a1 a2 a3 a4 a5 a6 a7 a8 a9 a10 a11 a12 : Value} (hi : L[i]? = some (bx g t #[a0, a1, a2, a3, a4, a5, a6, a7, a8, a9, a10, a11, a12])) (b0 b1 b2 b3 b4 b5 b6 b7 b8 b9 b10 b11 b12 : Value) :
  Sep w0 S (((((((((((((w.setCell ⟨g, 0, none⟩ b0).setCell ⟨g, 1, none⟩ b1).setCell ⟨g, 2, none⟩ b2).setCell ⟨g, 3, none⟩ b3).setCell ⟨g, 4, none⟩ b4).setCell ⟨g, 5, none⟩ b5).setCell ⟨g, 6, none⟩ b6).setCell ⟨g, 7, none⟩ b7).setCell ⟨g, 8, none⟩ b8).setCell ⟨g, 9, none⟩ b9).setCell ⟨g, 10, none⟩ b10).setCell ⟨g, 11, none⟩ b11).setCell ⟨g, 12, none⟩ b12) (L.set i (bx g t #[b0, b1, b2, b3, b4, b5, b6, b7, b8, b9, b10, b11, b12])) := by
 have hl : i < L.length := (List.getElem?_eq_some_iff.1 hi).1
 have h0 := h.setb i (g := g) (t := t) (cs := #[a0, a1, a2, a3, a4, a5, a6, a7, a8, a9, a10, a11, a12]) hi 0 b0 (cs' := #[b0, a1, a2, a3, a4, a5, a6, a7, a8, a9, a10, a11, a12]) rfl
 have h1 := h0.setb i (g := g) (t := t) (cs := #[b0, a1, a2, a3, a4, a5, a6, a7, a8, a9, a10, a11, a12]) (by simp [hl]) 1 b1 (cs' := #[b0, b1, a2, a3, a4, a5, a6, a7, a8, a9, a10, a11, a12]) rfl
 have h2 := h1.setb i (g := g) (t := t) (cs := #[b0, b1, a2, a3, a4, a5, a6, a7, a8, a9, a10, a11, a12]) (by simp [hl]) 2 b2 (cs' := #[b0, b1, b2, a3, a4, a5, a6, a7, a8, a9, a10, a11, a12]) rfl
 have h3 := h2.setb i (g := g) (t := t) (cs := #[b0, b1, b2, a3, a4, a5, a6, a7, a8, a9, a10, a11, a12]) (by simp [hl]) 3 b3 (cs' := #[b0, b1, b2, b3, a4, a5, a6, a7, a8, a9, a10, a11, a12]) rfl
 have h4 := h3.setb i (g := g) (t := t) (cs := #[b0, b1, b2, b3, a4, a5, a6, a7, a8, a9, a10, a11, a12]) (by simp [hl]) 4 b4 (cs' := #[b0, b1, b2, b3, b4, a5, a6, a7, a8, a9, a10, a11, a12]) rfl
 have h5 := h4.setb i (g := g) (t := t) (cs := #[b0, b1, b2, b3, b4, a5, a6, a7, a8, a9, a10, a11, a12]) (by simp [hl]) 5 b5 (cs' := #[b0, b1, b2, b3, b4, b5, a6, a7, a8, a9, a10, a11, a12]) rfl
 have h6 := h5.setb i (g := g) (t := t) (cs := #[b0, b1, b2, b3, b4, b5, a6, a7, a8, a9, a10, a11, a12]) (by simp [hl]) 6 b6 (cs' := #[b0, b1, b2, b3, b4, b5, b6, a7, a8, a9, a10, a11, a12]) rfl
 have h7 := h6.setb i (g := g) (t := t) (cs := #[b0, b1, b2, b3, b4, b5, b6, a7, a8, a9, a10, a11, a12]) (by simp [hl]) 7 b7 (cs' := #[b0, b1, b2, b3, b4, b5, b6, b7, a8, a9, a10, a11, a12]) rfl
 have h8 := h7.setb i (g := g) (t := t) (cs := #[b0, b1, b2, b3, b4, b5, b6, b7, a8, a9, a10, a11, a12]) (by simp [hl]) 8 b8 (cs' := #[b0, b1, b2, b3, b4, b5, b6, b7, b8, a9, a10, a11, a12]) rfl
 have h9 := h8.setb i (g := g) (t := t) (cs := #[b0, b1, b2, b3, b4, b5, b6, b7, b8, a9, a10, a11, a12]) (by simp [hl]) 9 b9 (cs' := #[b0, b1, b2, b3, b4, b5, b6, b7, b8, b9, a10, a11, a12]) rfl
 have h10 := h9.setb i (g := g) (t := t) (cs := #[b0, b1, b2, b3, b4, b5, b6, b7, b8, b9, a10, a11, a12]) (by simp [hl]) 10 b10 (cs' := #[b0, b1, b2, b3, b4, b5, b6, b7, b8, b9, b10, a11, a12]) rfl
 have h11 := h10.setb i (g := g) (t := t) (cs := #[b0, b1, b2, b3, b4, b5, b6, b7, b8, b9, b10, a11, a12]) (by simp [hl]) 11 b11 (cs' := #[b0, b1, b2, b3, b4, b5, b6, b7, b8, b9, b10, b11, a12]) rfl
 have h12 := h11.setb i (g := g) (t := t) (cs := #[b0, b1, b2, b3, b4, b5, b6, b7, b8, b9, b10, b11, a12]) (by simp [hl]) 12 b12 (cs' := #[b0, b1, b2, b3, b4, b5, b6, b7, b8, b9, b10, b11, b12]) rfl
 simpa using h12
theorem Sep.rowb {w0 w : World} {S : List Nat} {L : List Res} (h : Sep w0 S w L) (i : Nat) {g : Nat} {t : TypeId} {cs : Array Value} (hi : L[i]? = some (bx g t cs)) (cs' : Array Value) : Sep w0 S (w.setRow g cs') (L.set i (bx g t cs')) :=
 h.upd i hi ⟨⟨rfl, rfl, rfl, by simp, fun k hk hn => setRow_other w g k cs' (by simpa [bx] using hn)⟩, by simp [bx], fun k hk => .inl hk, lies_bx (setRow_heap w g cs cs' t (0, 0) (h.get i hi))⟩
theorem code_a {a : ArrV} {s : Int} {data : List Int} (h : arrB a = false) : codeV a s data = 1 := by unfold codeV; rw [h]; rfl
theorem code_b {a : ArrV} {s : Int} {data : List Int} (h : dobV a data = false) : codeV a s data = 1 := by unfold codeV; rw [h, Bool.and_false]; rfl
theorem code_c {a : ArrV} {s : Int} {data : List Int} (h1 : arrB a = true) (h2 : dobV a data = true) : codeV a s data = if a.down then 6 else if !inR s 0 (a.gs - 1) then 2 else if a.broken then 5 else if (decide (a.seq = 60000) || decide (59990 ≤ a.gen)) then 7 else 0 := by unfold codeV; rw [h1, h2]; rfl
theorem wr_no {a : ArrV} {s c : Int} {data : List Int} (h : codeV a s data = c) (hc : c ≠ 0) : wrR a s data = (a, c) := by unfold wrR; rw [h, if_neg hc]
theorem wr_yes {a : ArrV} {s : Int} {data : List Int} (h : codeV a s data = 0) : wrR a s data = (strV a s data, downC (strV a s data)) := by unfold wrR; rw [h]; rfl
theorem c_goodOr (x : ArrV) (w : World) : Calls Tryz.prog 40 #[.bool (!x.down)] w fun e w' => e = .returned (.int .i64 (downC x)) ∧ w' = w := by
 cases h : x.down
 ·rw [downC_no h]
  simp only [Bool.not_false]
  go_enter Tryz.func40, Tryz.ntmps40
  go_wp2
  go_ret
  exact ⟨rfl, rfl⟩
 ·rw [downC_yes h]
  simp only [Bool.not_true]
  go_enter Tryz.func40, Tryz.ntmps40
  go_wp2
  go_ret
  exact ⟨rfl, rfl⟩
set_option maxHeartbeats 8000000 in
set_option maxRecDepth 100000 in
theorem c_l7Code {w : World} {v u : Value} {a : ArrV} {s : Int} {data : List Int} (h : ArrR w v a) (hsm : SmallA a) (hx : RK kInt w u data) (hxl : data.length ≤ 1048576) :
  Calls Tryz.prog 30 #[v, .int .i64 s, u] w fun e w' => e = .returned (.int .i64 (codeV a s data)) ∧ Below w.heap.size w w' := by
 have H := Aside0.mk h
 have HSA := Aside0.mk hsm
 have HX := Aside0.mk hx
 have lx := RK_len hx
 obtain ⟨XA, xc, rfl, hx9⟩ := id hx
 obtain ⟨vm, vd, rfl, r1, r2⟩ := h
 have HI := Aside0.mk ((Sep.start w []).alloc (g := w.heap.size) rfl (arrC a vm vd) 34)
 clear r1 r2 hsm hx hx9
 simp only [arrC] at *
 obtain ⟨k0, k1, k2, k3, k4, k5, k6, k7, k8, k9, k10, k11, k12⟩ := thirteen (HI.out.get 0 rfl)
 by_cases hA : arrB a = true
 ·have HA := Aside0.mk hA
  clear hA
  by_cases hB2 : dobV a data = true
  ·have HB := Aside0.mk hB2
   clear hB2
   have HP := Aside0.mk (arrB_P HA.out)
   by_cases hdn : a.down = true
   ·have HDN := Aside0.mk hdn
    clear hdn
    have HCV := Aside0.mk (show codeV a s data = 6 by rw [code_c HA.out HB.out, HDN.out]; rfl)
    have hgn : 3 ≤ a.gn ∧ a.gn ≤ 5 := by have h1 := HP.out.geo; simp [geoB, inR] at h1; omega
    obtain ⟨hg3, hg5⟩ := hgn
    have hgs : 1 ≤ a.gs ∧ a.gs ≤ 8 := by have h1 := HP.out.geo; simp [geoB, inR] at h1; omega
    obtain ⟨hs3, hs5⟩ := hgs
    have hlq : (data.length : Int) = a.gn - 1 := by have h1 := HB.out; unfold dobV at h1; simp at h1; exact h1.1
    have HWO := Aside0.mk (show data.all isW = true by have h1 := HB.out; unfold dobV at h1; rw [decide_eq_true hlq] at h1; simpa using h1)
    go_enter Tryz.func30, Tryz.ntmps30
    go_wp2_with (first
     | (go_at_call 69; refine (c_l1Words (HS4.out.rk HX.out)).mono ?_; rw [HWO.out]; rintro e w5 ⟨rfl, hb⟩; have HS5 := Aside0.mk (HS4.out.dr hb); clear hb k0 k1 k2 k3 k4 k5 k6 k7 k8 k9 k10 k11 k12; obtain ⟨k0, k1, k2, k3, k4, k5, k6, k7, k8, k9, k10, k11, k12⟩ := thirteen (HS5.out.get 0 rfl); rw [HDN.out] at k11)
     | (go_at_call 59; refine (c_specArrOk (ArrR_below H.out HI.out.toBelow) HSA.out).mono ?_; rw [HA.out]; rintro e w4 ⟨rfl, hb⟩; have HS4 := Aside0.mk (HI.out.below hb); clear hb k0 k1 k2 k3 k4 k5 k6 k7 k8 k9 k10 k11 k12; obtain ⟨k0, k1, k2, k3, k4, k5, k6, k7, k8, k9, k10, k11, k12⟩ := thirteen (HS4.out.get 0 rfl); rw [HDN.out] at k11)
     | fail)
    go_ret
    rw [HCV.out]
    exact ⟨rfl, HS5.out.toBelow⟩
   ·have HDN := Aside0.mk (show a.down = false by simpa using hdn)
    clear hdn
    by_cases hin : inR s 0 (a.gs - 1) = true
    ·have HI2 := Aside0.mk hin
     clear hin
     by_cases hbr : a.broken = true
     ·have HBR := Aside0.mk hbr
      clear hbr
      have HCV := Aside0.mk (show codeV a s data = 5 by rw [code_c HA.out HB.out, HDN.out, HI2.out, HBR.out]; rfl)
      have hgn : 3 ≤ a.gn ∧ a.gn ≤ 5 := by have h1 := HP.out.geo; simp [geoB, inR] at h1; omega
      obtain ⟨hg3, hg5⟩ := hgn
      have hgs : 1 ≤ a.gs ∧ a.gs ≤ 8 := by have h1 := HP.out.geo; simp [geoB, inR] at h1; omega
      obtain ⟨hs3, hs5⟩ := hgs
      have hlq : (data.length : Int) = a.gn - 1 := by have h1 := HB.out; unfold dobV at h1; simp at h1; exact h1.1
      have HWO := Aside0.mk (show data.all isW = true by have h1 := HB.out; unfold dobV at h1; rw [decide_eq_true hlq] at h1; simpa using h1)
      go_enter Tryz.func30, Tryz.ntmps30
      go_wp2_with (first
       | (go_at_call 70; refine (c_l1In _ _ _ _).mono ?_; rw [HI2.out]; rintro e w6 ⟨rfl, hb⟩; have HS6 := Aside0.mk (HS5.out.dr hb); clear hb k0 k1 k2 k3 k4 k5 k6 k7 k8 k9 k10 k11 k12; obtain ⟨k0, k1, k2, k3, k4, k5, k6, k7, k8, k9, k10, k11, k12⟩ := thirteen (HS6.out.get 0 rfl); rw [HDN.out] at k11; rw [HBR.out] at k12)
       | (go_at_call 69; refine (c_l1Words (HS4.out.rk HX.out)).mono ?_; rw [HWO.out]; rintro e w5 ⟨rfl, hb⟩; have HS5 := Aside0.mk (HS4.out.dr hb); clear hb k0 k1 k2 k3 k4 k5 k6 k7 k8 k9 k10 k11 k12; obtain ⟨k0, k1, k2, k3, k4, k5, k6, k7, k8, k9, k10, k11, k12⟩ := thirteen (HS5.out.get 0 rfl); rw [HDN.out] at k11; rw [HBR.out] at k12)
       | (go_at_call 59; refine (c_specArrOk (ArrR_below H.out HI.out.toBelow) HSA.out).mono ?_; rw [HA.out]; rintro e w4 ⟨rfl, hb⟩; have HS4 := Aside0.mk (HI.out.below hb); clear hb k0 k1 k2 k3 k4 k5 k6 k7 k8 k9 k10 k11 k12; obtain ⟨k0, k1, k2, k3, k4, k5, k6, k7, k8, k9, k10, k11, k12⟩ := thirteen (HS4.out.get 0 rfl); rw [HDN.out] at k11; rw [HBR.out] at k12)
       | fail)
      go_ret
      rw [HCV.out]
      exact ⟨rfl, HS6.out.toBelow⟩
     ·have HBR := Aside0.mk (show a.broken = false by simpa using hbr)
      clear hbr
      by_cases hsq : a.seq = 60000
      ·have HSQ := Aside0.mk hsq
       clear hsq
       have HCV := Aside0.mk (show codeV a s data = 7 by rw [code_c HA.out HB.out, HDN.out, HI2.out, HBR.out, decide_eq_true HSQ.out]; rfl)
       have hgn : 3 ≤ a.gn ∧ a.gn ≤ 5 := by have h1 := HP.out.geo; simp [geoB, inR] at h1; omega
       obtain ⟨hg3, hg5⟩ := hgn
       have hgs : 1 ≤ a.gs ∧ a.gs ≤ 8 := by have h1 := HP.out.geo; simp [geoB, inR] at h1; omega
       obtain ⟨hs3, hs5⟩ := hgs
       have hlq : (data.length : Int) = a.gn - 1 := by have h1 := HB.out; unfold dobV at h1; simp at h1; exact h1.1
       have HWO := Aside0.mk (show data.all isW = true by have h1 := HB.out; unfold dobV at h1; rw [decide_eq_true hlq] at h1; simpa using h1)
       go_enter Tryz.func30, Tryz.ntmps30
       go_wp2_with (first
        | (go_at_call 70; refine (c_l1In _ _ _ _).mono ?_; rw [HI2.out]; rintro e w6 ⟨rfl, hb⟩; have HS6 := Aside0.mk (HS5.out.dr hb); clear hb k0 k1 k2 k3 k4 k5 k6 k7 k8 k9 k10 k11 k12; obtain ⟨k0, k1, k2, k3, k4, k5, k6, k7, k8, k9, k10, k11, k12⟩ := thirteen (HS6.out.get 0 rfl); rw [HDN.out] at k11; rw [HBR.out] at k12; rw [HSQ.out] at k6)
        | (go_at_call 69; refine (c_l1Words (HS4.out.rk HX.out)).mono ?_; rw [HWO.out]; rintro e w5 ⟨rfl, hb⟩; have HS5 := Aside0.mk (HS4.out.dr hb); clear hb k0 k1 k2 k3 k4 k5 k6 k7 k8 k9 k10 k11 k12; obtain ⟨k0, k1, k2, k3, k4, k5, k6, k7, k8, k9, k10, k11, k12⟩ := thirteen (HS5.out.get 0 rfl); rw [HDN.out] at k11; rw [HBR.out] at k12; rw [HSQ.out] at k6)
        | (go_at_call 59; refine (c_specArrOk (ArrR_below H.out HI.out.toBelow) HSA.out).mono ?_; rw [HA.out]; rintro e w4 ⟨rfl, hb⟩; have HS4 := Aside0.mk (HI.out.below hb); clear hb k0 k1 k2 k3 k4 k5 k6 k7 k8 k9 k10 k11 k12; obtain ⟨k0, k1, k2, k3, k4, k5, k6, k7, k8, k9, k10, k11, k12⟩ := thirteen (HS4.out.get 0 rfl); rw [HDN.out] at k11; rw [HBR.out] at k12; rw [HSQ.out] at k6)
        | fail)
       go_ret
       rw [HCV.out]
       exact ⟨rfl, HS6.out.toBelow⟩
      ·have HSQ := Aside0.mk hsq
       by_cases hgg : 59990 ≤ a.gen
       ·have HGG := Aside0.mk hgg
        have HCV := Aside0.mk (show codeV a s data = 7 by rw [code_c HA.out HB.out, HDN.out, HI2.out, HBR.out, decide_eq_false HSQ.out, decide_eq_true HGG.out]; rfl)
        have hgn : 3 ≤ a.gn ∧ a.gn ≤ 5 := by have h1 := HP.out.geo; simp [geoB, inR] at h1; omega
        obtain ⟨hg3, hg5⟩ := hgn
        have hgs : 1 ≤ a.gs ∧ a.gs ≤ 8 := by have h1 := HP.out.geo; simp [geoB, inR] at h1; omega
        obtain ⟨hs3, hs5⟩ := hgs
        have hlq : (data.length : Int) = a.gn - 1 := by have h1 := HB.out; unfold dobV at h1; simp at h1; exact h1.1
        have HWO := Aside0.mk (show data.all isW = true by have h1 := HB.out; unfold dobV at h1; rw [decide_eq_true hlq] at h1; simpa using h1)
        have hsq2 : a.seq < 60000 := by have h1 := HP.out.seq; omega
        go_enter Tryz.func30, Tryz.ntmps30
        go_wp2_with (first
         | (go_at_call 70; refine (c_l1In _ _ _ _).mono ?_; rw [HI2.out]; rintro e w6 ⟨rfl, hb⟩; have HS6 := Aside0.mk (HS5.out.dr hb); clear hb k0 k1 k2 k3 k4 k5 k6 k7 k8 k9 k10 k11 k12; obtain ⟨k0, k1, k2, k3, k4, k5, k6, k7, k8, k9, k10, k11, k12⟩ := thirteen (HS6.out.get 0 rfl); rw [HDN.out] at k11; rw [HBR.out] at k12)
         | (go_at_call 69; refine (c_l1Words (HS4.out.rk HX.out)).mono ?_; rw [HWO.out]; rintro e w5 ⟨rfl, hb⟩; have HS5 := Aside0.mk (HS4.out.dr hb); clear hb k0 k1 k2 k3 k4 k5 k6 k7 k8 k9 k10 k11 k12; obtain ⟨k0, k1, k2, k3, k4, k5, k6, k7, k8, k9, k10, k11, k12⟩ := thirteen (HS5.out.get 0 rfl); rw [HDN.out] at k11; rw [HBR.out] at k12)
         | (go_at_call 59; refine (c_specArrOk (ArrR_below H.out HI.out.toBelow) HSA.out).mono ?_; rw [HA.out]; rintro e w4 ⟨rfl, hb⟩; have HS4 := Aside0.mk (HI.out.below hb); clear hb k0 k1 k2 k3 k4 k5 k6 k7 k8 k9 k10 k11 k12; obtain ⟨k0, k1, k2, k3, k4, k5, k6, k7, k8, k9, k10, k11, k12⟩ := thirteen (HS4.out.get 0 rfl); rw [HDN.out] at k11; rw [HBR.out] at k12)
         | fail)
        go_ret
        rw [HCV.out]
        exact ⟨rfl, HS6.out.toBelow⟩
       ·have HGG := Aside0.mk hgg
        have HCV := Aside0.mk (show codeV a s data = 0 by rw [code_c HA.out HB.out, HDN.out, HI2.out, HBR.out, decide_eq_false HSQ.out, decide_eq_false HGG.out]; rfl)
        have hgn : 3 ≤ a.gn ∧ a.gn ≤ 5 := by have h1 := HP.out.geo; simp [geoB, inR] at h1; omega
        obtain ⟨hg3, hg5⟩ := hgn
        have hgs : 1 ≤ a.gs ∧ a.gs ≤ 8 := by have h1 := HP.out.geo; simp [geoB, inR] at h1; omega
        obtain ⟨hs3, hs5⟩ := hgs
        have hlq : (data.length : Int) = a.gn - 1 := by have h1 := HB.out; unfold dobV at h1; simp at h1; exact h1.1
        have HWO := Aside0.mk (show data.all isW = true by have h1 := HB.out; unfold dobV at h1; rw [decide_eq_true hlq] at h1; simpa using h1)
        have hsq2 : a.seq < 60000 := by have h1 := HP.out.seq; omega
        go_enter Tryz.func30, Tryz.ntmps30
        go_wp2_with (first
         | (go_at_call 70; refine (c_l1In _ _ _ _).mono ?_; rw [HI2.out]; rintro e w6 ⟨rfl, hb⟩; have HS6 := Aside0.mk (HS5.out.dr hb); clear hb k0 k1 k2 k3 k4 k5 k6 k7 k8 k9 k10 k11 k12; obtain ⟨k0, k1, k2, k3, k4, k5, k6, k7, k8, k9, k10, k11, k12⟩ := thirteen (HS6.out.get 0 rfl); rw [HDN.out] at k11; rw [HBR.out] at k12)
         | (go_at_call 69; refine (c_l1Words (HS4.out.rk HX.out)).mono ?_; rw [HWO.out]; rintro e w5 ⟨rfl, hb⟩; have HS5 := Aside0.mk (HS4.out.dr hb); clear hb k0 k1 k2 k3 k4 k5 k6 k7 k8 k9 k10 k11 k12; obtain ⟨k0, k1, k2, k3, k4, k5, k6, k7, k8, k9, k10, k11, k12⟩ := thirteen (HS5.out.get 0 rfl); rw [HDN.out] at k11; rw [HBR.out] at k12)
         | (go_at_call 59; refine (c_specArrOk (ArrR_below H.out HI.out.toBelow) HSA.out).mono ?_; rw [HA.out]; rintro e w4 ⟨rfl, hb⟩; have HS4 := Aside0.mk (HI.out.below hb); clear hb k0 k1 k2 k3 k4 k5 k6 k7 k8 k9 k10 k11 k12; obtain ⟨k0, k1, k2, k3, k4, k5, k6, k7, k8, k9, k10, k11, k12⟩ := thirteen (HS4.out.get 0 rfl); rw [HDN.out] at k11; rw [HBR.out] at k12)
         | fail)
        go_ret
        rw [HCV.out]
        exact ⟨rfl, HS6.out.toBelow⟩
    ·have HI2 := Aside0.mk (show inR s 0 (a.gs - 1) = false by simpa using hin)
     clear hin
     have HCV := Aside0.mk (show codeV a s data = 2 by rw [code_c HA.out HB.out, HDN.out, HI2.out]; rfl)
     have hgn : 3 ≤ a.gn ∧ a.gn ≤ 5 := by have h1 := HP.out.geo; simp [geoB, inR] at h1; omega
     obtain ⟨hg3, hg5⟩ := hgn
     have hgs : 1 ≤ a.gs ∧ a.gs ≤ 8 := by have h1 := HP.out.geo; simp [geoB, inR] at h1; omega
     obtain ⟨hs3, hs5⟩ := hgs
     have hlq : (data.length : Int) = a.gn - 1 := by have h1 := HB.out; unfold dobV at h1; simp at h1; exact h1.1
     have HWO := Aside0.mk (show data.all isW = true by have h1 := HB.out; unfold dobV at h1; rw [decide_eq_true hlq] at h1; simpa using h1)
     go_enter Tryz.func30, Tryz.ntmps30
     go_wp2_with (first
      | (go_at_call 70; refine (c_l1In _ _ _ _).mono ?_; rw [HI2.out]; rintro e w6 ⟨rfl, hb⟩; have HS6 := Aside0.mk (HS5.out.dr hb); clear hb k0 k1 k2 k3 k4 k5 k6 k7 k8 k9 k10 k11 k12; obtain ⟨k0, k1, k2, k3, k4, k5, k6, k7, k8, k9, k10, k11, k12⟩ := thirteen (HS6.out.get 0 rfl); rw [HDN.out] at k11)
      | (go_at_call 69; refine (c_l1Words (HS4.out.rk HX.out)).mono ?_; rw [HWO.out]; rintro e w5 ⟨rfl, hb⟩; have HS5 := Aside0.mk (HS4.out.dr hb); clear hb k0 k1 k2 k3 k4 k5 k6 k7 k8 k9 k10 k11 k12; obtain ⟨k0, k1, k2, k3, k4, k5, k6, k7, k8, k9, k10, k11, k12⟩ := thirteen (HS5.out.get 0 rfl); rw [HDN.out] at k11)
      | (go_at_call 59; refine (c_specArrOk (ArrR_below H.out HI.out.toBelow) HSA.out).mono ?_; rw [HA.out]; rintro e w4 ⟨rfl, hb⟩; have HS4 := Aside0.mk (HI.out.below hb); clear hb k0 k1 k2 k3 k4 k5 k6 k7 k8 k9 k10 k11 k12; obtain ⟨k0, k1, k2, k3, k4, k5, k6, k7, k8, k9, k10, k11, k12⟩ := thirteen (HS4.out.get 0 rfl); rw [HDN.out] at k11)
      | fail)
     go_ret
     rw [HCV.out]
     exact ⟨rfl, HS6.out.toBelow⟩
  ·have HB := Aside0.mk (show dobV a data = false by simpa using hB2)
   clear hB2
   have HP := Aside0.mk (arrB_P HA.out)
   have HCV := Aside0.mk (show codeV a s data = 1 by exact code_b HB.out)
   have hgn : 3 ≤ a.gn ∧ a.gn ≤ 5 := by have h1 := HP.out.geo; simp [geoB, inR] at h1; omega
   obtain ⟨hg3, hg5⟩ := hgn
   have hgs : 1 ≤ a.gs ∧ a.gs ≤ 8 := by have h1 := HP.out.geo; simp [geoB, inR] at h1; omega
   obtain ⟨hs3, hs5⟩ := hgs
   by_cases hlq : (data.length : Int) = a.gn - 1
   ·have HWO := Aside0.mk (show data.all isW = false by have h1 := HB.out; unfold dobV at h1; rw [decide_eq_true hlq] at h1; simpa using h1)
    have HLQ := Aside0.mk hlq
    skip
    go_enter Tryz.func30, Tryz.ntmps30
    go_wp2_with (first
     | (go_at_call 69; refine (c_l1Words (HS4.out.rk HX.out)).mono ?_; rw [HWO.out]; rintro e w5 ⟨rfl, hb⟩; have HS5 := Aside0.mk (HS4.out.dr hb); clear hb k0 k1 k2 k3 k4 k5 k6 k7 k8 k9 k10 k11 k12; obtain ⟨k0, k1, k2, k3, k4, k5, k6, k7, k8, k9, k10, k11, k12⟩ := thirteen (HS5.out.get 0 rfl))
     | (go_at_call 59; refine (c_specArrOk (ArrR_below H.out HI.out.toBelow) HSA.out).mono ?_; rw [HA.out]; rintro e w4 ⟨rfl, hb⟩; have HS4 := Aside0.mk (HI.out.below hb); clear hb k0 k1 k2 k3 k4 k5 k6 k7 k8 k9 k10 k11 k12; obtain ⟨k0, k1, k2, k3, k4, k5, k6, k7, k8, k9, k10, k11, k12⟩ := thirteen (HS4.out.get 0 rfl))
     | fail)
    go_ret
    rw [HCV.out]
    exact ⟨rfl, HS5.out.toBelow⟩
   ·have hlq : ¬ (data.length : Int) = a.gn - 1 := hlq
    go_enter Tryz.func30, Tryz.ntmps30
    go_wp2_with (first
     | (go_at_call 59; refine (c_specArrOk (ArrR_below H.out HI.out.toBelow) HSA.out).mono ?_; rw [HA.out]; rintro e w4 ⟨rfl, hb⟩; have HS4 := Aside0.mk (HI.out.below hb); clear hb k0 k1 k2 k3 k4 k5 k6 k7 k8 k9 k10 k11 k12; obtain ⟨k0, k1, k2, k3, k4, k5, k6, k7, k8, k9, k10, k11, k12⟩ := thirteen (HS4.out.get 0 rfl))
     | fail)
    go_ret
    rw [HCV.out]
    exact ⟨rfl, HS4.out.toBelow⟩
 ·have HA := Aside0.mk (show arrB a = false by simpa using hA)
  clear hA
  have HCV := Aside0.mk (show codeV a s data = 1 by exact code_a HA.out)
  go_enter Tryz.func30, Tryz.ntmps30
  go_wp2_with (first
   | (go_at_call 59; refine (c_specArrOk (ArrR_below H.out HI.out.toBelow) HSA.out).mono ?_; rw [HA.out]; rintro e w4 ⟨rfl, hb⟩; have HS4 := Aside0.mk (HI.out.below hb); clear hb k0 k1 k2 k3 k4 k5 k6 k7 k8 k9 k10 k11 k12; obtain ⟨k0, k1, k2, k3, k4, k5, k6, k7, k8, k9, k10, k11, k12⟩ := thirteen (HS4.out.get 0 rfl))
   | fail)
  go_ret
  rw [HCV.out]
  exact ⟨rfl, HS4.out.toBelow⟩
set_option maxHeartbeats 8000000 in
set_option maxRecDepth 100000 in
theorem c_implStripe {w : World} {v u : Value} {a : ArrV} {s : Int} {data : List Int} (h : ArrR w v a) (hsm : SmallA a) (hx : RK kInt w u data) (hxl : data.length ≤ 1048576) :
  Calls Tryz.prog 9 #[v, .int .i64 s, u] w fun e w' => ∃ u F, e = .returned (.tuple #[u, .int .i64 (wrR a s data).2]) ∧ New w w' (ar F u (wrR a s data).1) := by
 have H := Aside0.mk h
 have HSA := Aside0.mk hsm
 have HX := Aside0.mk hx
 have HXL := Aside0.mk hxl
 obtain ⟨vm, vd, rfl, r1, r2⟩ := h
 have HI := Aside0.mk (((Sep.start w []).alloc (g := w.heap.size) rfl (arrC a vm vd) 34).alloc (g := w.heap.size + 1) (by simp) arrZ 34)
 clear r1 r2 hsm hx
 simp only [arrC, arrZ] at *
 obtain ⟨k0, k1, k2, k3, k4, k5, k6, k7, k8, k9, k10, k11, k12⟩ := thirteen (HI.out.get 1 rfl)
 obtain ⟨l0, l1, l2, l3, l4, l5, l6, l7, l8, l9, l10, l11, l12⟩ := thirteen (HI.out.get 0 rfl)
 by_cases hA : arrB a = true
 ·have HA := Aside0.mk hA
  clear hA
  by_cases hB2 : dobV a data = true
  ·have HB := Aside0.mk hB2
   clear hB2
   have HP := Aside0.mk (arrB_P HA.out)
   by_cases hdn : a.down = true
   ·have HDN := Aside0.mk hdn
    clear hdn
    have HCV := Aside0.mk (show codeV a s data = 6 by rw [code_c HA.out HB.out, HDN.out]; rfl)
    have HGN := Aside0.mk (show 0 ≤ a.gn ∧ a.gn ≤ 1000 by have h1 := HP.out.geo; simp [geoB, inR] at h1; omega)
    have HR := Aside0.mk (show wrR a s data = (a, 6) from wr_no HCV.out (by decide))
    go_enter Tryz.func9, Tryz.ntmps9
    go_upto_region 2 with (first
     | (go_at_call 35; refine (c_copyArr (ArrR_below H.out HI.out.toBelow) HSA.out).mono ?_; rintro e w2 ⟨u2, F2, rfl, hn⟩; have hs2 := HI.out.new hn; obtain ⟨A1, c1, A2, c2, F1, F3, rfl, hs3⟩ := Sep.ofArr hs2; simp only [arrC] at *; have HS2 := Aside0.mk hs3; clear hs2 hs3 hn k0 k1 k2 k3 k4 k5 k6 k7 k8 k9 k10 k11 k12 l0 l1 l2 l3 l4 l5 l6 l7 l8 l9 l10 l11 l12)
     | fail)
    have hB := HS2.out.alloc (g := w2.heap.size) rfl #[.int .i64 a.id, .int .i64 a.gn, .int .i64 a.gs, .slice A1 a.mems.length c1, .int .i64 a.lost, .int .i64 a.built, .int .i64 a.seq, .int .i64 a.tail, .int .i64 a.gen, .slice A2 a.dirty.length c2, .int .i64 a.fuse, .bool a.down, .bool a.broken] 34
    generalize hgz : w2.heap.size = g3 at *
    generalize hww : w2.alloc (.cells #[.int .i64 a.id, .int .i64 a.gn, .int .i64 a.gs, .slice A1 a.mems.length c1, .int .i64 a.lost, .int .i64 a.built, .int .i64 a.seq, .int .i64 a.tail, .int .i64 a.gen, .slice A2 a.dirty.length c2, .int .i64 a.fuse, .bool a.down, .bool a.broken] 34 (0, 0)) = w3 at *
    have HS3 := Aside0.mk hB
    clear hB hgz hww HS2
    obtain ⟨l0, l1, l2, l3, l4, l5, l6, l7, l8, l9, l10, l11, l12⟩ := thirteen (HS3.out.get 0 rfl)
    obtain ⟨k0, k1, k2, k3, k4, k5, k6, k7, k8, k9, k10, k11, k12⟩ := thirteen (HS3.out.get 4 rfl)
    obtain ⟨z0, z1, z2, z3, z4, z5, z6, z7, z8, z9, z10, z11, z12⟩ := thirteen (HS3.out.get 3 rfl)
    have gz := blk_frozen (HS3.out.get 3 rfl)
    go_upto_region 5 with (first
     | (go_at_call 37; refine (c_dataOk (HS4.out.rk HX.out) HGN.out).mono ?_; rw [show (decide ((data.length : Int) = a.gn - 1) && data.all isW) = dobV a data from rfl, HB.out]; rintro e w5 ⟨rfl, hb⟩; have HS5 := Aside0.mk (HS4.out.below hb); clear hb k0 k1 k2 k3 k4 k5 k6 k7 k8 k9 k10 k11 k12; obtain ⟨k0, k1, k2, k3, k4, k5, k6, k7, k8, k9, k10, k11, k12⟩ := thirteen (HS5.out.get 4 rfl); rw [HDN.out] at k11; obtain ⟨l0, l1, l2, l3, l4, l5, l6, l7, l8, l9, l10, l11, l12⟩ := thirteen (HS5.out.get 0 rfl); obtain ⟨z0, z1, z2, z3, z4, z5, z6, z7, z8, z9, z10, z11, z12⟩ := thirteen (HS5.out.get 3 rfl); have gz := blk_frozen (HS5.out.get 3 rfl))
     | (go_at_call 36; refine (c_implArrOk (ArrR_below H.out HS3.out.toBelow) HSA.out).mono ?_; rw [HA.out]; rintro e w4 ⟨rfl, hb⟩; have HS4 := Aside0.mk (HS3.out.below hb); clear hb k0 k1 k2 k3 k4 k5 k6 k7 k8 k9 k10 k11 k12 gz l0 l1 l2 l3 l4 l5 l6 l7 l8 l9 l10 l11 l12 z0 z1 z2 z3 z4 z5 z6 z7 z8 z9 z10 z11 z12; obtain ⟨k0, k1, k2, k3, k4, k5, k6, k7, k8, k9, k10, k11, k12⟩ := thirteen (HS4.out.get 4 rfl); rw [HDN.out] at k11)
     | fail)
    (try clear H); (try clear HI); (try clear HSA); (try clear HX); (try clear HS3); (try clear HS4); (try clear HS6); (try clear HA); (try clear HB); (try clear HDN); (try clear HBR); (try clear HI2); (try clear HSQ); (try clear HGG); (try clear HP); (try clear hgg); (try clear hsq); (try clear k0 k1 k2 k3 k4 k5 k6 k7 k8 k9 k10 k11 k12)
    go_wp2
    have HE := Sep.box13 HS5.out 3 rfl (.int .i64 a.id) (.int .i64 a.gn) (.int .i64 a.gs) (.slice A1 a.mems.length c1) (.int .i64 a.lost) (.int .i64 a.built) (.int .i64 a.seq) (.int .i64 a.tail) (.int .i64 a.gen) (.slice A2 a.dirty.length c2) (.int .i64 a.fuse) (.bool a.down) (.bool a.broken)
    simp only [qqN] at HE
    refine bodyPost_ret (results_ct rfl _ _ (w.heap.size + 1) 34 #[.int .i64 a.id, .int .i64 a.gn, .int .i64 a.gs, .slice A1 a.mems.length c1, .int .i64 a.lost, .int .i64 a.built, .int .i64 a.seq, .int .i64 a.tail, .int .i64 a.gen, .slice A2 a.dirty.length c2, .int .i64 a.fuse, .bool a.down, .bool a.broken] (0, 0) _ rfl (HE.get 3 rfl) Tryz.underlying34 rfl (by kernel_rfl)) rfl ?_
    have hB := HE.sel [1, 2] (by decide) (by simp)
    simp only [qqN] at hB
    rw [HR.out]
    exact ⟨_, _, rfl, (Sep.toArr (a := a) hB).toNew 0 rfl⟩
   ·have HDN := Aside0.mk (show a.down = false by simpa using hdn)
    clear hdn
    by_cases hin : inR s 0 (a.gs - 1) = true
    ·have HI2 := Aside0.mk hin
     clear hin
     by_cases hbr : a.broken = true
     ·have HBR := Aside0.mk hbr
      clear hbr
      have HCV := Aside0.mk (show codeV a s data = 5 by rw [code_c HA.out HB.out, HDN.out, HI2.out, HBR.out]; rfl)
      have HGN := Aside0.mk (show 0 ≤ a.gn ∧ a.gn ≤ 1000 by have h1 := HP.out.geo; simp [geoB, inR] at h1; omega)
      have HR := Aside0.mk (show wrR a s data = (a, 5) from wr_no HCV.out (by decide))
      go_enter Tryz.func9, Tryz.ntmps9
      go_upto_region 2 with (first
       | (go_at_call 35; refine (c_copyArr (ArrR_below H.out HI.out.toBelow) HSA.out).mono ?_; rintro e w2 ⟨u2, F2, rfl, hn⟩; have hs2 := HI.out.new hn; obtain ⟨A1, c1, A2, c2, F1, F3, rfl, hs3⟩ := Sep.ofArr hs2; simp only [arrC] at *; have HS2 := Aside0.mk hs3; clear hs2 hs3 hn k0 k1 k2 k3 k4 k5 k6 k7 k8 k9 k10 k11 k12 l0 l1 l2 l3 l4 l5 l6 l7 l8 l9 l10 l11 l12)
       | fail)
      have hB := HS2.out.alloc (g := w2.heap.size) rfl #[.int .i64 a.id, .int .i64 a.gn, .int .i64 a.gs, .slice A1 a.mems.length c1, .int .i64 a.lost, .int .i64 a.built, .int .i64 a.seq, .int .i64 a.tail, .int .i64 a.gen, .slice A2 a.dirty.length c2, .int .i64 a.fuse, .bool a.down, .bool a.broken] 34
      generalize hgz : w2.heap.size = g3 at *
      generalize hww : w2.alloc (.cells #[.int .i64 a.id, .int .i64 a.gn, .int .i64 a.gs, .slice A1 a.mems.length c1, .int .i64 a.lost, .int .i64 a.built, .int .i64 a.seq, .int .i64 a.tail, .int .i64 a.gen, .slice A2 a.dirty.length c2, .int .i64 a.fuse, .bool a.down, .bool a.broken] 34 (0, 0)) = w3 at *
      have HS3 := Aside0.mk hB
      clear hB hgz hww HS2
      obtain ⟨l0, l1, l2, l3, l4, l5, l6, l7, l8, l9, l10, l11, l12⟩ := thirteen (HS3.out.get 0 rfl)
      obtain ⟨k0, k1, k2, k3, k4, k5, k6, k7, k8, k9, k10, k11, k12⟩ := thirteen (HS3.out.get 4 rfl)
      obtain ⟨z0, z1, z2, z3, z4, z5, z6, z7, z8, z9, z10, z11, z12⟩ := thirteen (HS3.out.get 3 rfl)
      have gz := blk_frozen (HS3.out.get 3 rfl)
      go_upto_region 9 with (first
       | (go_at_call 38; refine (c_hasStripe _ _ s _ HP.out.geo).mono ?_; rw [HI2.out]; rintro e w6 ⟨rfl, hb⟩; have HS6 := Aside0.mk (HS5.out.below hb); clear hb k0 k1 k2 k3 k4 k5 k6 k7 k8 k9 k10 k11 k12; obtain ⟨k0, k1, k2, k3, k4, k5, k6, k7, k8, k9, k10, k11, k12⟩ := thirteen (HS6.out.get 4 rfl); rw [HDN.out] at k11; rw [HBR.out] at k12; obtain ⟨l0, l1, l2, l3, l4, l5, l6, l7, l8, l9, l10, l11, l12⟩ := thirteen (HS6.out.get 0 rfl); obtain ⟨z0, z1, z2, z3, z4, z5, z6, z7, z8, z9, z10, z11, z12⟩ := thirteen (HS6.out.get 3 rfl); have gz := blk_frozen (HS6.out.get 3 rfl))
       | (go_at_call 37; refine (c_dataOk (HS4.out.rk HX.out) HGN.out).mono ?_; rw [show (decide ((data.length : Int) = a.gn - 1) && data.all isW) = dobV a data from rfl, HB.out]; rintro e w5 ⟨rfl, hb⟩; have HS5 := Aside0.mk (HS4.out.below hb); clear hb k0 k1 k2 k3 k4 k5 k6 k7 k8 k9 k10 k11 k12; obtain ⟨k0, k1, k2, k3, k4, k5, k6, k7, k8, k9, k10, k11, k12⟩ := thirteen (HS5.out.get 4 rfl); rw [HDN.out] at k11; rw [HBR.out] at k12)
       | (go_at_call 36; refine (c_implArrOk (ArrR_below H.out HS3.out.toBelow) HSA.out).mono ?_; rw [HA.out]; rintro e w4 ⟨rfl, hb⟩; have HS4 := Aside0.mk (HS3.out.below hb); clear hb k0 k1 k2 k3 k4 k5 k6 k7 k8 k9 k10 k11 k12 gz l0 l1 l2 l3 l4 l5 l6 l7 l8 l9 l10 l11 l12 z0 z1 z2 z3 z4 z5 z6 z7 z8 z9 z10 z11 z12; obtain ⟨k0, k1, k2, k3, k4, k5, k6, k7, k8, k9, k10, k11, k12⟩ := thirteen (HS4.out.get 4 rfl); rw [HDN.out] at k11; rw [HBR.out] at k12)
       | fail)
      (try clear H); (try clear HI); (try clear HSA); (try clear HX); (try clear HS3); (try clear HS4); (try clear HS5); (try clear HA); (try clear HB); (try clear HDN); (try clear HBR); (try clear HI2); (try clear HSQ); (try clear HGG); (try clear HP); (try clear hgg); (try clear hsq); (try clear k0 k1 k2 k3 k4 k5 k6 k7 k8 k9 k10 k11 k12)
      go_wp2
      have HE := Sep.box13 HS6.out 3 rfl (.int .i64 a.id) (.int .i64 a.gn) (.int .i64 a.gs) (.slice A1 a.mems.length c1) (.int .i64 a.lost) (.int .i64 a.built) (.int .i64 a.seq) (.int .i64 a.tail) (.int .i64 a.gen) (.slice A2 a.dirty.length c2) (.int .i64 a.fuse) (.bool a.down) (.bool a.broken)
      simp only [qqN] at HE
      refine bodyPost_ret (results_ct rfl _ _ (w.heap.size + 1) 34 #[.int .i64 a.id, .int .i64 a.gn, .int .i64 a.gs, .slice A1 a.mems.length c1, .int .i64 a.lost, .int .i64 a.built, .int .i64 a.seq, .int .i64 a.tail, .int .i64 a.gen, .slice A2 a.dirty.length c2, .int .i64 a.fuse, .bool a.down, .bool a.broken] (0, 0) _ rfl (HE.get 3 rfl) Tryz.underlying34 rfl (by kernel_rfl)) rfl ?_
      have hB := HE.sel [1, 2] (by decide) (by simp)
      simp only [qqN] at hB
      rw [HR.out]
      exact ⟨_, _, rfl, (Sep.toArr (a := a) hB).toNew 0 rfl⟩
     ·have HBR := Aside0.mk (show a.broken = false by simpa using hbr)
      clear hbr
      by_cases hsq : a.seq = 60000
      ·have HSQ := Aside0.mk hsq
       clear hsq
       have HCV := Aside0.mk (show codeV a s data = 7 by rw [code_c HA.out HB.out, HDN.out, HI2.out, HBR.out, decide_eq_true HSQ.out]; rfl)
       have HGN := Aside0.mk (show 0 ≤ a.gn ∧ a.gn ≤ 1000 by have h1 := HP.out.geo; simp [geoB, inR] at h1; omega)
       have HR := Aside0.mk (show wrR a s data = (a, 7) from wr_no HCV.out (by decide))
       go_enter Tryz.func9, Tryz.ntmps9
       go_upto_region 2 with (first
        | (go_at_call 35; refine (c_copyArr (ArrR_below H.out HI.out.toBelow) HSA.out).mono ?_; rintro e w2 ⟨u2, F2, rfl, hn⟩; have hs2 := HI.out.new hn; obtain ⟨A1, c1, A2, c2, F1, F3, rfl, hs3⟩ := Sep.ofArr hs2; simp only [arrC] at *; have HS2 := Aside0.mk hs3; clear hs2 hs3 hn k0 k1 k2 k3 k4 k5 k6 k7 k8 k9 k10 k11 k12 l0 l1 l2 l3 l4 l5 l6 l7 l8 l9 l10 l11 l12)
        | fail)
       have hB := HS2.out.alloc (g := w2.heap.size) rfl #[.int .i64 a.id, .int .i64 a.gn, .int .i64 a.gs, .slice A1 a.mems.length c1, .int .i64 a.lost, .int .i64 a.built, .int .i64 a.seq, .int .i64 a.tail, .int .i64 a.gen, .slice A2 a.dirty.length c2, .int .i64 a.fuse, .bool a.down, .bool a.broken] 34
       generalize hgz : w2.heap.size = g3 at *
       generalize hww : w2.alloc (.cells #[.int .i64 a.id, .int .i64 a.gn, .int .i64 a.gs, .slice A1 a.mems.length c1, .int .i64 a.lost, .int .i64 a.built, .int .i64 a.seq, .int .i64 a.tail, .int .i64 a.gen, .slice A2 a.dirty.length c2, .int .i64 a.fuse, .bool a.down, .bool a.broken] 34 (0, 0)) = w3 at *
       have HS3 := Aside0.mk hB
       clear hB hgz hww HS2
       obtain ⟨l0, l1, l2, l3, l4, l5, l6, l7, l8, l9, l10, l11, l12⟩ := thirteen (HS3.out.get 0 rfl)
       obtain ⟨k0, k1, k2, k3, k4, k5, k6, k7, k8, k9, k10, k11, k12⟩ := thirteen (HS3.out.get 4 rfl)
       obtain ⟨z0, z1, z2, z3, z4, z5, z6, z7, z8, z9, z10, z11, z12⟩ := thirteen (HS3.out.get 3 rfl)
       have gz := blk_frozen (HS3.out.get 3 rfl)
       go_upto_region 11 with (first
        | (go_at_call 38; refine (c_hasStripe _ _ s _ HP.out.geo).mono ?_; rw [HI2.out]; rintro e w6 ⟨rfl, hb⟩; have HS6 := Aside0.mk (HS5.out.below hb); clear hb k0 k1 k2 k3 k4 k5 k6 k7 k8 k9 k10 k11 k12; obtain ⟨k0, k1, k2, k3, k4, k5, k6, k7, k8, k9, k10, k11, k12⟩ := thirteen (HS6.out.get 4 rfl); rw [HDN.out] at k11; rw [HBR.out] at k12; rw [HSQ.out] at k6; obtain ⟨l0, l1, l2, l3, l4, l5, l6, l7, l8, l9, l10, l11, l12⟩ := thirteen (HS6.out.get 0 rfl); obtain ⟨z0, z1, z2, z3, z4, z5, z6, z7, z8, z9, z10, z11, z12⟩ := thirteen (HS6.out.get 3 rfl); have gz := blk_frozen (HS6.out.get 3 rfl))
        | (go_at_call 37; refine (c_dataOk (HS4.out.rk HX.out) HGN.out).mono ?_; rw [show (decide ((data.length : Int) = a.gn - 1) && data.all isW) = dobV a data from rfl, HB.out]; rintro e w5 ⟨rfl, hb⟩; have HS5 := Aside0.mk (HS4.out.below hb); clear hb k0 k1 k2 k3 k4 k5 k6 k7 k8 k9 k10 k11 k12; obtain ⟨k0, k1, k2, k3, k4, k5, k6, k7, k8, k9, k10, k11, k12⟩ := thirteen (HS5.out.get 4 rfl); rw [HDN.out] at k11; rw [HBR.out] at k12; rw [HSQ.out] at k6)
        | (go_at_call 36; refine (c_implArrOk (ArrR_below H.out HS3.out.toBelow) HSA.out).mono ?_; rw [HA.out]; rintro e w4 ⟨rfl, hb⟩; have HS4 := Aside0.mk (HS3.out.below hb); clear hb k0 k1 k2 k3 k4 k5 k6 k7 k8 k9 k10 k11 k12 gz l0 l1 l2 l3 l4 l5 l6 l7 l8 l9 l10 l11 l12 z0 z1 z2 z3 z4 z5 z6 z7 z8 z9 z10 z11 z12; obtain ⟨k0, k1, k2, k3, k4, k5, k6, k7, k8, k9, k10, k11, k12⟩ := thirteen (HS4.out.get 4 rfl); rw [HDN.out] at k11; rw [HBR.out] at k12; rw [HSQ.out] at k6)
        | fail)
       (try clear H); (try clear HI); (try clear HSA); (try clear HX); (try clear HS3); (try clear HS4); (try clear HS5); (try clear HA); (try clear HB); (try clear HDN); (try clear HBR); (try clear HI2); (try clear HSQ); (try clear HGG); (try clear HP); (try clear hgg); (try clear hsq); (try clear k0 k1 k2 k3 k4 k5 k6 k7 k8 k9 k10 k11 k12)
       go_wp2
       have HE := Sep.box13 HS6.out 3 rfl (.int .i64 a.id) (.int .i64 a.gn) (.int .i64 a.gs) (.slice A1 a.mems.length c1) (.int .i64 a.lost) (.int .i64 a.built) (.int .i64 a.seq) (.int .i64 a.tail) (.int .i64 a.gen) (.slice A2 a.dirty.length c2) (.int .i64 a.fuse) (.bool a.down) (.bool a.broken)
       simp only [qqN] at HE
       refine bodyPost_ret (results_ct rfl _ _ (w.heap.size + 1) 34 #[.int .i64 a.id, .int .i64 a.gn, .int .i64 a.gs, .slice A1 a.mems.length c1, .int .i64 a.lost, .int .i64 a.built, .int .i64 a.seq, .int .i64 a.tail, .int .i64 a.gen, .slice A2 a.dirty.length c2, .int .i64 a.fuse, .bool a.down, .bool a.broken] (0, 0) _ rfl (HE.get 3 rfl) Tryz.underlying34 rfl (by kernel_rfl)) rfl ?_
       have hB := HE.sel [1, 2] (by decide) (by simp)
       simp only [qqN] at hB
       rw [HR.out]
       exact ⟨_, _, rfl, (Sep.toArr (a := a) hB).toNew 0 rfl⟩
      ·have HSQ := Aside0.mk hsq
       by_cases hgg : 59990 ≤ a.gen
       ·have HGG := Aside0.mk hgg
        have HCV := Aside0.mk (show codeV a s data = 7 by rw [code_c HA.out HB.out, HDN.out, HI2.out, HBR.out, decide_eq_false HSQ.out, decide_eq_true HGG.out]; rfl)
        have HGN := Aside0.mk (show 0 ≤ a.gn ∧ a.gn ≤ 1000 by have h1 := HP.out.geo; simp [geoB, inR] at h1; omega)
        have HR := Aside0.mk (show wrR a s data = (a, 7) from wr_no HCV.out (by decide))
        go_enter Tryz.func9, Tryz.ntmps9
        go_upto_region 2 with (first
         | (go_at_call 35; refine (c_copyArr (ArrR_below H.out HI.out.toBelow) HSA.out).mono ?_; rintro e w2 ⟨u2, F2, rfl, hn⟩; have hs2 := HI.out.new hn; obtain ⟨A1, c1, A2, c2, F1, F3, rfl, hs3⟩ := Sep.ofArr hs2; simp only [arrC] at *; have HS2 := Aside0.mk hs3; clear hs2 hs3 hn k0 k1 k2 k3 k4 k5 k6 k7 k8 k9 k10 k11 k12 l0 l1 l2 l3 l4 l5 l6 l7 l8 l9 l10 l11 l12)
         | fail)
        have hB := HS2.out.alloc (g := w2.heap.size) rfl #[.int .i64 a.id, .int .i64 a.gn, .int .i64 a.gs, .slice A1 a.mems.length c1, .int .i64 a.lost, .int .i64 a.built, .int .i64 a.seq, .int .i64 a.tail, .int .i64 a.gen, .slice A2 a.dirty.length c2, .int .i64 a.fuse, .bool a.down, .bool a.broken] 34
        generalize hgz : w2.heap.size = g3 at *
        generalize hww : w2.alloc (.cells #[.int .i64 a.id, .int .i64 a.gn, .int .i64 a.gs, .slice A1 a.mems.length c1, .int .i64 a.lost, .int .i64 a.built, .int .i64 a.seq, .int .i64 a.tail, .int .i64 a.gen, .slice A2 a.dirty.length c2, .int .i64 a.fuse, .bool a.down, .bool a.broken] 34 (0, 0)) = w3 at *
        have HS3 := Aside0.mk hB
        clear hB hgz hww HS2
        obtain ⟨l0, l1, l2, l3, l4, l5, l6, l7, l8, l9, l10, l11, l12⟩ := thirteen (HS3.out.get 0 rfl)
        obtain ⟨k0, k1, k2, k3, k4, k5, k6, k7, k8, k9, k10, k11, k12⟩ := thirteen (HS3.out.get 4 rfl)
        obtain ⟨z0, z1, z2, z3, z4, z5, z6, z7, z8, z9, z10, z11, z12⟩ := thirteen (HS3.out.get 3 rfl)
        have gz := blk_frozen (HS3.out.get 3 rfl)
        go_upto_region 11 with (first
         | (go_at_call 38; refine (c_hasStripe _ _ s _ HP.out.geo).mono ?_; rw [HI2.out]; rintro e w6 ⟨rfl, hb⟩; have HS6 := Aside0.mk (HS5.out.below hb); clear hb k0 k1 k2 k3 k4 k5 k6 k7 k8 k9 k10 k11 k12; obtain ⟨k0, k1, k2, k3, k4, k5, k6, k7, k8, k9, k10, k11, k12⟩ := thirteen (HS6.out.get 4 rfl); rw [HDN.out] at k11; rw [HBR.out] at k12; obtain ⟨l0, l1, l2, l3, l4, l5, l6, l7, l8, l9, l10, l11, l12⟩ := thirteen (HS6.out.get 0 rfl); obtain ⟨z0, z1, z2, z3, z4, z5, z6, z7, z8, z9, z10, z11, z12⟩ := thirteen (HS6.out.get 3 rfl); have gz := blk_frozen (HS6.out.get 3 rfl))
         | (go_at_call 37; refine (c_dataOk (HS4.out.rk HX.out) HGN.out).mono ?_; rw [show (decide ((data.length : Int) = a.gn - 1) && data.all isW) = dobV a data from rfl, HB.out]; rintro e w5 ⟨rfl, hb⟩; have HS5 := Aside0.mk (HS4.out.below hb); clear hb k0 k1 k2 k3 k4 k5 k6 k7 k8 k9 k10 k11 k12; obtain ⟨k0, k1, k2, k3, k4, k5, k6, k7, k8, k9, k10, k11, k12⟩ := thirteen (HS5.out.get 4 rfl); rw [HDN.out] at k11; rw [HBR.out] at k12)
         | (go_at_call 36; refine (c_implArrOk (ArrR_below H.out HS3.out.toBelow) HSA.out).mono ?_; rw [HA.out]; rintro e w4 ⟨rfl, hb⟩; have HS4 := Aside0.mk (HS3.out.below hb); clear hb k0 k1 k2 k3 k4 k5 k6 k7 k8 k9 k10 k11 k12 gz l0 l1 l2 l3 l4 l5 l6 l7 l8 l9 l10 l11 l12 z0 z1 z2 z3 z4 z5 z6 z7 z8 z9 z10 z11 z12; obtain ⟨k0, k1, k2, k3, k4, k5, k6, k7, k8, k9, k10, k11, k12⟩ := thirteen (HS4.out.get 4 rfl); rw [HDN.out] at k11; rw [HBR.out] at k12)
         | fail)
        (try clear H); (try clear HI); (try clear HSA); (try clear HX); (try clear HS3); (try clear HS4); (try clear HS5); (try clear HA); (try clear HB); (try clear HDN); (try clear HBR); (try clear HI2); (try clear HSQ); (try clear HGG); (try clear HP); (try clear hgg); (try clear hsq); (try clear k0 k1 k2 k3 k4 k5 k6 k7 k8 k9 k10 k11 k12)
        go_wp2
        have HE := Sep.box13 HS6.out 3 rfl (.int .i64 a.id) (.int .i64 a.gn) (.int .i64 a.gs) (.slice A1 a.mems.length c1) (.int .i64 a.lost) (.int .i64 a.built) (.int .i64 a.seq) (.int .i64 a.tail) (.int .i64 a.gen) (.slice A2 a.dirty.length c2) (.int .i64 a.fuse) (.bool a.down) (.bool a.broken)
        simp only [qqN] at HE
        refine bodyPost_ret (results_ct rfl _ _ (w.heap.size + 1) 34 #[.int .i64 a.id, .int .i64 a.gn, .int .i64 a.gs, .slice A1 a.mems.length c1, .int .i64 a.lost, .int .i64 a.built, .int .i64 a.seq, .int .i64 a.tail, .int .i64 a.gen, .slice A2 a.dirty.length c2, .int .i64 a.fuse, .bool a.down, .bool a.broken] (0, 0) _ rfl (HE.get 3 rfl) Tryz.underlying34 rfl (by kernel_rfl)) rfl ?_
        have hB := HE.sel [1, 2] (by decide) (by simp)
        simp only [qqN] at hB
        rw [HR.out]
        exact ⟨_, _, rfl, (Sep.toArr (a := a) hB).toNew 0 rfl⟩
       ·have HGG := Aside0.mk hgg
        have HCV := Aside0.mk (show codeV a s data = 0 by rw [code_c HA.out HB.out, HDN.out, HI2.out, HBR.out, decide_eq_false HSQ.out, decide_eq_false HGG.out]; rfl)
        have HGN := Aside0.mk (show 0 ≤ a.gn ∧ a.gn ≤ 1000 by have h1 := HP.out.geo; simp [geoB, inR] at h1; omega)
        have hgg2 : a.gen < 59990 := by omega
        have hsb : (a.seq == 60000) = false := by simpa using hsq
        have hgd : decide (59990 ≤ a.gen) = false := decide_eq_false hgg
        have hor : ¬ ((a.seq == 60000) = true ∨ 59990 ≤ a.gen) := by rw [hsb]; simp; omega
        have HFU := Aside0.mk (show a.fuse ≤ 1000 by have := HP.out.fuse; simp [inR] at this; omega)
        have hml : 0 < a.mems.length := by have := HP.out.geo; have := HP.out.len; simp [geoB, inR] at *; omega
        have HML := Aside0.mk hml
        clear hml
        have HQ1 := Aside0.mk (show 0 ≤ a.seq ∧ a.seq < 60000 by have h1 := HP.out.seq; have h2 := HP.out.tail; have h3 := HSQ.out; omega)
        have HQ2 := Aside0.mk (show 0 ≤ a.gen ∧ a.gen < 60000 by have h1 := HP.out.gen; have h2 := HGG.out; simp [inR] at h1; omega)
        have HLQ := Aside0.mk (show (data.length : Int) = a.gn - 1 by have h1 := HB.out; unfold dobV at h1; simp at h1; exact h1.1)
        obtain ⟨nv, hnv⟩ : ∃ nv, strV a s data = nv := ⟨_, rfl⟩
        have HNV := Aside0.mk hnv
        have HNM := Aside0.mk (show nv.dirty = a.dirty ∧ nv.mems.length = a.mems.length by rw [← hnv]; exact strV_most_seq a s data)
        have HR := Aside0.mk (show wrR a s data = (nv, downC nv) by rw [wr_yes HCV.out, hnv])
        clear hnv
        go_enter Tryz.func9, Tryz.ntmps9
        go_upto_region 2 with (first
         | (go_at_call 35; refine (c_copyArr (ArrR_below H.out HI.out.toBelow) HSA.out).mono ?_; rintro e w2 ⟨u2, F2, rfl, hn⟩; have hs2 := HI.out.new hn; obtain ⟨A1, c1, A2, c2, F1, F3, rfl, hs3⟩ := Sep.ofArr hs2; simp only [arrC] at *; have HS2 := Aside0.mk hs3; clear hs2 hs3 hn k0 k1 k2 k3 k4 k5 k6 k7 k8 k9 k10 k11 k12 l0 l1 l2 l3 l4 l5 l6 l7 l8 l9 l10 l11 l12)
         | fail)
        have hB := HS2.out.alloc (g := w2.heap.size) rfl #[.int .i64 a.id, .int .i64 a.gn, .int .i64 a.gs, .slice A1 a.mems.length c1, .int .i64 a.lost, .int .i64 a.built, .int .i64 a.seq, .int .i64 a.tail, .int .i64 a.gen, .slice A2 a.dirty.length c2, .int .i64 a.fuse, .bool a.down, .bool a.broken] 34
        generalize hgz : w2.heap.size = g3 at *
        generalize hww : w2.alloc (.cells #[.int .i64 a.id, .int .i64 a.gn, .int .i64 a.gs, .slice A1 a.mems.length c1, .int .i64 a.lost, .int .i64 a.built, .int .i64 a.seq, .int .i64 a.tail, .int .i64 a.gen, .slice A2 a.dirty.length c2, .int .i64 a.fuse, .bool a.down, .bool a.broken] 34 (0, 0)) = w3 at *
        have HS3 := Aside0.mk hB
        clear hB hgz hww HS2
        obtain ⟨l0, l1, l2, l3, l4, l5, l6, l7, l8, l9, l10, l11, l12⟩ := thirteen (HS3.out.get 0 rfl)
        obtain ⟨k0, k1, k2, k3, k4, k5, k6, k7, k8, k9, k10, k11, k12⟩ := thirteen (HS3.out.get 4 rfl)
        obtain ⟨z0, z1, z2, z3, z4, z5, z6, z7, z8, z9, z10, z11, z12⟩ := thirteen (HS3.out.get 3 rfl)
        have gz := blk_frozen (HS3.out.get 3 rfl)
        obtain ⟨hh, cap9, hv9, _, _⟩ := O_form (show oMem.O 89 w3 F1 (.slice A1 a.mems.length c1) a.mems from HS3.out.get 1 rfl) HML.out
        obtain rfl := (Value.slice.inj hv9).1
        clear hv9
        go_upto_region 13 with (first
         | (go_at_call 39; refine (c_implStrF HS6.out rfl HSA.out.1 HDN.out HFU.out HSA.out.2.1 (fun w' M h => h.rk HX.out) (fun w' M h => O_RK (show oWr.O 91 w' F3 (.slice A2 a.dirty.length c2) a.dirty from h.get (r := rw_ oWr 91 F3 (.slice A2 a.dirty.length c2) a.dirty) M.length (by simp))) HP.out.geo HP.out.len HI2.out HLQ.out HQ1.out HP.out.tail HQ2.out).mono ?_; rw [HNV.out]; rintro e w8 ⟨F8, rfl, hs8⟩; simp only [arrC] at hs8; have HS8 := Aside0.mk hs8; clear hs8 k0 k1 k2 k3 k4 k5 k6 k7 k8 k9 k10 k11 k12; obtain ⟨l0, l1, l2, l3, l4, l5, l6, l7, l8, l9, l10, l11, l12⟩ := thirteen (HS8.out.get 0 rfl); obtain ⟨z0, z1, z2, z3, z4, z5, z6, z7, z8, z9, z10, z11, z12⟩ := thirteen (HS8.out.get 3 rfl); have gz := blk_frozen (HS8.out.get 3 rfl))
         | (go_at_call 38; refine (c_hasStripe _ _ s _ HP.out.geo).mono ?_; rw [HI2.out]; rintro e w6 ⟨rfl, hb⟩; have HS6 := Aside0.mk (HS5.out.below hb); clear hb k0 k1 k2 k3 k4 k5 k6 k7 k8 k9 k10 k11 k12; obtain ⟨k0, k1, k2, k3, k4, k5, k6, k7, k8, k9, k10, k11, k12⟩ := thirteen (HS6.out.get 4 rfl); rw [HDN.out] at k11; rw [HBR.out] at k12)
         | (go_at_call 37; refine (c_dataOk (HS4.out.rk HX.out) HGN.out).mono ?_; rw [show (decide ((data.length : Int) = a.gn - 1) && data.all isW) = dobV a data from rfl, HB.out]; rintro e w5 ⟨rfl, hb⟩; have HS5 := Aside0.mk (HS4.out.below hb); clear hb k0 k1 k2 k3 k4 k5 k6 k7 k8 k9 k10 k11 k12; obtain ⟨k0, k1, k2, k3, k4, k5, k6, k7, k8, k9, k10, k11, k12⟩ := thirteen (HS5.out.get 4 rfl); rw [HDN.out] at k11; rw [HBR.out] at k12)
         | (go_at_call 36; refine (c_implArrOk (ArrR_below H.out HS3.out.toBelow) HSA.out).mono ?_; rw [HA.out]; rintro e w4 ⟨rfl, hb⟩; have HS4 := Aside0.mk (HS3.out.below hb); clear hb k0 k1 k2 k3 k4 k5 k6 k7 k8 k9 k10 k11 k12 gz l0 l1 l2 l3 l4 l5 l6 l7 l8 l9 l10 l11 l12 z0 z1 z2 z3 z4 z5 z6 z7 z8 z9 z10 z11 z12; obtain ⟨k0, k1, k2, k3, k4, k5, k6, k7, k8, k9, k10, k11, k12⟩ := thirteen (HS4.out.get 4 rfl); rw [HDN.out] at k11; rw [HBR.out] at k12)
         | fail)
        (try clear H); (try clear HI); (try clear HSA); (try clear HX); (try clear HS3); (try clear HS4); (try clear HS5); (try clear HS6); (try clear HS7); (try clear HA); (try clear HB); (try clear HDN); (try clear HBR); (try clear HI2); (try clear HSQ); (try clear HGG); (try clear HP); (try clear HFU); (try clear HML); (try clear HQ1); (try clear HQ2); (try clear HLQ); (try clear hor); (try clear hsb); (try clear hgd); (try clear hgg); (try clear hgg2); (try clear hsq); (try clear HNV); (try clear hnd); (try clear k0 k1 k2 k3 k4 k5 k6 k7 k8 k9 k10 k11 k12)
        have HALL : ∀ w' : World, Below w8.heap.size w8 w' → (w'.cell? ⟨g3, 0, none⟩ = some (.int .i64 nv.id) ∧ w'.cell? ⟨g3, 1, none⟩ = some (.int .i64 nv.gn) ∧ w'.cell? ⟨g3, 2, none⟩ = some (.int .i64 nv.gs) ∧ w'.cell? ⟨g3, 3, none⟩ = some (.slice (some ⟨hh, 0, none⟩) a.mems.length c1) ∧ w'.cell? ⟨g3, 4, none⟩ = some (.int .i64 nv.lost) ∧ w'.cell? ⟨g3, 5, none⟩ = some (.int .i64 nv.built) ∧ w'.cell? ⟨g3, 6, none⟩ = some (.int .i64 nv.seq) ∧ w'.cell? ⟨g3, 7, none⟩ = some (.int .i64 nv.tail) ∧ w'.cell? ⟨g3, 8, none⟩ = some (.int .i64 nv.gen) ∧ w'.cell? ⟨g3, 9, none⟩ = some (.slice A2 a.dirty.length c2) ∧ w'.cell? ⟨g3, 10, none⟩ = some (.int .i64 nv.fuse) ∧ w'.cell? ⟨g3, 11, none⟩ = some (.bool nv.down) ∧ w'.cell? ⟨g3, 12, none⟩ = some (.bool nv.broken)) := fun w' hb => ⟨(hb.cell (lt_of_cell l0)).trans l0, (hb.cell (lt_of_cell l1)).trans l1, (hb.cell (lt_of_cell l2)).trans l2, (hb.cell (lt_of_cell l3)).trans l3, (hb.cell (lt_of_cell l4)).trans l4, (hb.cell (lt_of_cell l5)).trans l5, (hb.cell (lt_of_cell l6)).trans l6, (hb.cell (lt_of_cell l7)).trans l7, (hb.cell (lt_of_cell l8)).trans l8, (hb.cell (lt_of_cell l9)).trans l9, (hb.cell (lt_of_cell l10)).trans l10, (hb.cell (lt_of_cell l11)).trans l11, (hb.cell (lt_of_cell l12)).trans l12⟩
        replace HALL := Aside0.mk HALL
        clear l0 l1 l2 l3 l4 l5 l6 l7 l8 l9 l10 l11 l12 z0 z1 z2 z3 z4 z5 z6 z7 z8 z9 z10 z11 z12 gz
        refine wp_region_seqc (fun w' => Below w8.heap.size w8 w') [3, 4] [(1, 2), (0, 1), (2, 0), (3, 0), (4, 0)] (by kernel_rfl) (by kernel_rfl) ?_
        have hS : Below w8.heap.size w8 w8.drew := Below.drew (Below.refl _ _)
        repeat ((first | (refine seqp_pure rfl (fun _ _ _ h => h) (by rfl) (fun w_ => by go_simp; first | done | with_reducible rfl) ?_) | (refine seqp_take hS rfl (fun _ _ _ h => h) (by rfl) (fun w_ hSw => by have hSc := HALL.out w_ hSw; clear hSw; go_simp; first | done | with_reducible rfl) ?_) | (refine seqp_skip2 rfl (fun _ _ _ h => h) (by rfl) ?_) | (refine seqp_skip1 hS rfl (fun _ _ _ h => h) (by rfl) ?_) | (refine seqp_skip0 rfl (by rfl) ?_)); (try simp only [Act.put, qqP]))
        refine seqp_step rfl (fun K hK => ?_)
        go_simp
        go_at_call 40; refine (c_goodOr nv _).mono ?_; rintro e w9 ⟨rfl, rfl⟩; have hb := Below.refl w8.drew.heap.size w8.drew
        replace hS := hS.trans (hb.mono hS.size); clear hb; refine hK.out _ _ ⟨fun _ _ => hS, ?_⟩; clear hK K; (try simp only [Act.put, qqP])
        have HS9 := Aside0.mk (HS8.out.below hS)
        clear hS HALL
        refine seqp_step rfl (fun K hK => ?_)
        rw [if_pos (by rfl)]
        refine wp_store_row 34 _ _ rfl (w.heap.size + 1) #[.int .i64 nv.id, .int .i64 nv.gn, .int .i64 nv.gs, .slice (some ⟨hh, 0, none⟩) a.mems.length c1, .int .i64 nv.lost, .int .i64 nv.built, .int .i64 nv.seq, .int .i64 nv.tail, .int .i64 nv.gen, .slice A2 a.dirty.length c2, .int .i64 nv.fuse, .bool nv.down, .bool nv.broken] (by rfl) (by rfl) 34 _ (HS9.out.get 3 rfl) (by kernel_rfl) rfl (by simp [Value.oneCell']) ?_
        refine hK.out _ _ ⟨(fun h => (by cases h)), ?_⟩; clear hK K; (try simp only [Act.put, qqP])
        refine seqp_step rfl (fun K hK => ?_)
        go_simp
        refine hK.out _ _ ⟨(fun h => (by cases h)), ?_⟩; clear hK K; (try simp only [Act.put, qqP])
        refine seqp_done ?_
        go_wp2
        have HE := Sep.rowb HS9.out 3 rfl #[.int .i64 nv.id, .int .i64 nv.gn, .int .i64 nv.gs, .slice (some ⟨hh, 0, none⟩) a.mems.length c1, .int .i64 nv.lost, .int .i64 nv.built, .int .i64 nv.seq, .int .i64 nv.tail, .int .i64 nv.gen, .slice A2 a.dirty.length c2, .int .i64 nv.fuse, .bool nv.down, .bool nv.broken]
        simp only [qqN] at HE
        refine bodyPost_ret (results_ct rfl _ _ (w.heap.size + 1) 34 #[.int .i64 nv.id, .int .i64 nv.gn, .int .i64 nv.gs, .slice (some ⟨hh, 0, none⟩) a.mems.length c1, .int .i64 nv.lost, .int .i64 nv.built, .int .i64 nv.seq, .int .i64 nv.tail, .int .i64 nv.gen, .slice A2 a.dirty.length c2, .int .i64 nv.fuse, .bool nv.down, .bool nv.broken] (0, 0) _ rfl (HE.get 3 rfl) Tryz.underlying34 rfl (by kernel_rfl)) rfl ?_
        have hB := HE.sel [1, 2] (by decide) (by simp)
        simp only [qqN] at hB
        rw [HR.out]
        skip
        exact ⟨_, _, rfl, (Sep.toArr (a := nv) (by rw [HNM.out.1]; exact hB)).toNew 0 rfl⟩
    ·have HI2 := Aside0.mk (show inR s 0 (a.gs - 1) = false by simpa using hin)
     clear hin
     have HCV := Aside0.mk (show codeV a s data = 2 by rw [code_c HA.out HB.out, HDN.out, HI2.out]; rfl)
     have HGN := Aside0.mk (show 0 ≤ a.gn ∧ a.gn ≤ 1000 by have h1 := HP.out.geo; simp [geoB, inR] at h1; omega)
     have HR := Aside0.mk (show wrR a s data = (a, 2) from wr_no HCV.out (by decide))
     go_enter Tryz.func9, Tryz.ntmps9
     go_upto_region 2 with (first
      | (go_at_call 35; refine (c_copyArr (ArrR_below H.out HI.out.toBelow) HSA.out).mono ?_; rintro e w2 ⟨u2, F2, rfl, hn⟩; have hs2 := HI.out.new hn; obtain ⟨A1, c1, A2, c2, F1, F3, rfl, hs3⟩ := Sep.ofArr hs2; simp only [arrC] at *; have HS2 := Aside0.mk hs3; clear hs2 hs3 hn k0 k1 k2 k3 k4 k5 k6 k7 k8 k9 k10 k11 k12 l0 l1 l2 l3 l4 l5 l6 l7 l8 l9 l10 l11 l12)
      | fail)
     have hB := HS2.out.alloc (g := w2.heap.size) rfl #[.int .i64 a.id, .int .i64 a.gn, .int .i64 a.gs, .slice A1 a.mems.length c1, .int .i64 a.lost, .int .i64 a.built, .int .i64 a.seq, .int .i64 a.tail, .int .i64 a.gen, .slice A2 a.dirty.length c2, .int .i64 a.fuse, .bool a.down, .bool a.broken] 34
     generalize hgz : w2.heap.size = g3 at *
     generalize hww : w2.alloc (.cells #[.int .i64 a.id, .int .i64 a.gn, .int .i64 a.gs, .slice A1 a.mems.length c1, .int .i64 a.lost, .int .i64 a.built, .int .i64 a.seq, .int .i64 a.tail, .int .i64 a.gen, .slice A2 a.dirty.length c2, .int .i64 a.fuse, .bool a.down, .bool a.broken] 34 (0, 0)) = w3 at *
     have HS3 := Aside0.mk hB
     clear hB hgz hww HS2
     obtain ⟨l0, l1, l2, l3, l4, l5, l6, l7, l8, l9, l10, l11, l12⟩ := thirteen (HS3.out.get 0 rfl)
     obtain ⟨k0, k1, k2, k3, k4, k5, k6, k7, k8, k9, k10, k11, k12⟩ := thirteen (HS3.out.get 4 rfl)
     obtain ⟨z0, z1, z2, z3, z4, z5, z6, z7, z8, z9, z10, z11, z12⟩ := thirteen (HS3.out.get 3 rfl)
     have gz := blk_frozen (HS3.out.get 3 rfl)
     go_upto_region 7 with (first
      | (go_at_call 38; refine (c_hasStripe _ _ s _ HP.out.geo).mono ?_; rw [HI2.out]; rintro e w6 ⟨rfl, hb⟩; have HS6 := Aside0.mk (HS5.out.below hb); clear hb k0 k1 k2 k3 k4 k5 k6 k7 k8 k9 k10 k11 k12; obtain ⟨k0, k1, k2, k3, k4, k5, k6, k7, k8, k9, k10, k11, k12⟩ := thirteen (HS6.out.get 4 rfl); rw [HDN.out] at k11; obtain ⟨l0, l1, l2, l3, l4, l5, l6, l7, l8, l9, l10, l11, l12⟩ := thirteen (HS6.out.get 0 rfl); obtain ⟨z0, z1, z2, z3, z4, z5, z6, z7, z8, z9, z10, z11, z12⟩ := thirteen (HS6.out.get 3 rfl); have gz := blk_frozen (HS6.out.get 3 rfl))
      | (go_at_call 37; refine (c_dataOk (HS4.out.rk HX.out) HGN.out).mono ?_; rw [show (decide ((data.length : Int) = a.gn - 1) && data.all isW) = dobV a data from rfl, HB.out]; rintro e w5 ⟨rfl, hb⟩; have HS5 := Aside0.mk (HS4.out.below hb); clear hb k0 k1 k2 k3 k4 k5 k6 k7 k8 k9 k10 k11 k12; obtain ⟨k0, k1, k2, k3, k4, k5, k6, k7, k8, k9, k10, k11, k12⟩ := thirteen (HS5.out.get 4 rfl); rw [HDN.out] at k11)
      | (go_at_call 36; refine (c_implArrOk (ArrR_below H.out HS3.out.toBelow) HSA.out).mono ?_; rw [HA.out]; rintro e w4 ⟨rfl, hb⟩; have HS4 := Aside0.mk (HS3.out.below hb); clear hb k0 k1 k2 k3 k4 k5 k6 k7 k8 k9 k10 k11 k12 gz l0 l1 l2 l3 l4 l5 l6 l7 l8 l9 l10 l11 l12 z0 z1 z2 z3 z4 z5 z6 z7 z8 z9 z10 z11 z12; obtain ⟨k0, k1, k2, k3, k4, k5, k6, k7, k8, k9, k10, k11, k12⟩ := thirteen (HS4.out.get 4 rfl); rw [HDN.out] at k11)
      | fail)
     (try clear H); (try clear HI); (try clear HSA); (try clear HX); (try clear HS3); (try clear HS4); (try clear HS5); (try clear HA); (try clear HB); (try clear HDN); (try clear HBR); (try clear HI2); (try clear HSQ); (try clear HGG); (try clear HP); (try clear hgg); (try clear hsq); (try clear k0 k1 k2 k3 k4 k5 k6 k7 k8 k9 k10 k11 k12)
     go_wp2
     have HE := Sep.box13 HS6.out 3 rfl (.int .i64 a.id) (.int .i64 a.gn) (.int .i64 a.gs) (.slice A1 a.mems.length c1) (.int .i64 a.lost) (.int .i64 a.built) (.int .i64 a.seq) (.int .i64 a.tail) (.int .i64 a.gen) (.slice A2 a.dirty.length c2) (.int .i64 a.fuse) (.bool a.down) (.bool a.broken)
     simp only [qqN] at HE
     refine bodyPost_ret (results_ct rfl _ _ (w.heap.size + 1) 34 #[.int .i64 a.id, .int .i64 a.gn, .int .i64 a.gs, .slice A1 a.mems.length c1, .int .i64 a.lost, .int .i64 a.built, .int .i64 a.seq, .int .i64 a.tail, .int .i64 a.gen, .slice A2 a.dirty.length c2, .int .i64 a.fuse, .bool a.down, .bool a.broken] (0, 0) _ rfl (HE.get 3 rfl) Tryz.underlying34 rfl (by kernel_rfl)) rfl ?_
     have hB := HE.sel [1, 2] (by decide) (by simp)
     simp only [qqN] at hB
     rw [HR.out]
     exact ⟨_, _, rfl, (Sep.toArr (a := a) hB).toNew 0 rfl⟩
  ·have HB := Aside0.mk (show dobV a data = false by simpa using hB2)
   clear hB2
   have HP := Aside0.mk (arrB_P HA.out)
   have HCV := Aside0.mk (show codeV a s data = 1 by exact code_b HB.out)
   have HGN := Aside0.mk (show 0 ≤ a.gn ∧ a.gn ≤ 1000 by have h1 := HP.out.geo; simp [geoB, inR] at h1; omega)
   have HR := Aside0.mk (show wrR a s data = (a, 1) from wr_no HCV.out (by decide))
   go_enter Tryz.func9, Tryz.ntmps9
   go_upto_region 2 with (first
    | (go_at_call 35; refine (c_copyArr (ArrR_below H.out HI.out.toBelow) HSA.out).mono ?_; rintro e w2 ⟨u2, F2, rfl, hn⟩; have hs2 := HI.out.new hn; obtain ⟨A1, c1, A2, c2, F1, F3, rfl, hs3⟩ := Sep.ofArr hs2; simp only [arrC] at *; have HS2 := Aside0.mk hs3; clear hs2 hs3 hn k0 k1 k2 k3 k4 k5 k6 k7 k8 k9 k10 k11 k12 l0 l1 l2 l3 l4 l5 l6 l7 l8 l9 l10 l11 l12)
    | fail)
   have hB := HS2.out.alloc (g := w2.heap.size) rfl #[.int .i64 a.id, .int .i64 a.gn, .int .i64 a.gs, .slice A1 a.mems.length c1, .int .i64 a.lost, .int .i64 a.built, .int .i64 a.seq, .int .i64 a.tail, .int .i64 a.gen, .slice A2 a.dirty.length c2, .int .i64 a.fuse, .bool a.down, .bool a.broken] 34
   generalize hgz : w2.heap.size = g3 at *
   generalize hww : w2.alloc (.cells #[.int .i64 a.id, .int .i64 a.gn, .int .i64 a.gs, .slice A1 a.mems.length c1, .int .i64 a.lost, .int .i64 a.built, .int .i64 a.seq, .int .i64 a.tail, .int .i64 a.gen, .slice A2 a.dirty.length c2, .int .i64 a.fuse, .bool a.down, .bool a.broken] 34 (0, 0)) = w3 at *
   have HS3 := Aside0.mk hB
   clear hB hgz hww HS2
   obtain ⟨l0, l1, l2, l3, l4, l5, l6, l7, l8, l9, l10, l11, l12⟩ := thirteen (HS3.out.get 0 rfl)
   obtain ⟨k0, k1, k2, k3, k4, k5, k6, k7, k8, k9, k10, k11, k12⟩ := thirteen (HS3.out.get 4 rfl)
   obtain ⟨z0, z1, z2, z3, z4, z5, z6, z7, z8, z9, z10, z11, z12⟩ := thirteen (HS3.out.get 3 rfl)
   have gz := blk_frozen (HS3.out.get 3 rfl)
   go_upto_region 3 with (first
    | (go_at_call 37; refine (c_dataOk (HS4.out.rk HX.out) HGN.out).mono ?_; rw [show (decide ((data.length : Int) = a.gn - 1) && data.all isW) = dobV a data from rfl, HB.out]; rintro e w5 ⟨rfl, hb⟩; have HS5 := Aside0.mk (HS4.out.below hb); clear hb k0 k1 k2 k3 k4 k5 k6 k7 k8 k9 k10 k11 k12; obtain ⟨k0, k1, k2, k3, k4, k5, k6, k7, k8, k9, k10, k11, k12⟩ := thirteen (HS5.out.get 4 rfl); obtain ⟨l0, l1, l2, l3, l4, l5, l6, l7, l8, l9, l10, l11, l12⟩ := thirteen (HS5.out.get 0 rfl); obtain ⟨z0, z1, z2, z3, z4, z5, z6, z7, z8, z9, z10, z11, z12⟩ := thirteen (HS5.out.get 3 rfl); have gz := blk_frozen (HS5.out.get 3 rfl))
    | (go_at_call 36; refine (c_implArrOk (ArrR_below H.out HS3.out.toBelow) HSA.out).mono ?_; rw [HA.out]; rintro e w4 ⟨rfl, hb⟩; have HS4 := Aside0.mk (HS3.out.below hb); clear hb k0 k1 k2 k3 k4 k5 k6 k7 k8 k9 k10 k11 k12 gz l0 l1 l2 l3 l4 l5 l6 l7 l8 l9 l10 l11 l12 z0 z1 z2 z3 z4 z5 z6 z7 z8 z9 z10 z11 z12; obtain ⟨k0, k1, k2, k3, k4, k5, k6, k7, k8, k9, k10, k11, k12⟩ := thirteen (HS4.out.get 4 rfl))
    | fail)
   (try clear H); (try clear HI); (try clear HSA); (try clear HX); (try clear HS3); (try clear HS4); (try clear HS6); (try clear HA); (try clear HB); (try clear HDN); (try clear HBR); (try clear HI2); (try clear HSQ); (try clear HGG); (try clear HP); (try clear hgg); (try clear hsq); (try clear k0 k1 k2 k3 k4 k5 k6 k7 k8 k9 k10 k11 k12)
   go_wp2
   have HE := Sep.box13 HS5.out 3 rfl (.int .i64 a.id) (.int .i64 a.gn) (.int .i64 a.gs) (.slice A1 a.mems.length c1) (.int .i64 a.lost) (.int .i64 a.built) (.int .i64 a.seq) (.int .i64 a.tail) (.int .i64 a.gen) (.slice A2 a.dirty.length c2) (.int .i64 a.fuse) (.bool a.down) (.bool a.broken)
   simp only [qqN] at HE
   refine bodyPost_ret (results_ct rfl _ _ (w.heap.size + 1) 34 #[.int .i64 a.id, .int .i64 a.gn, .int .i64 a.gs, .slice A1 a.mems.length c1, .int .i64 a.lost, .int .i64 a.built, .int .i64 a.seq, .int .i64 a.tail, .int .i64 a.gen, .slice A2 a.dirty.length c2, .int .i64 a.fuse, .bool a.down, .bool a.broken] (0, 0) _ rfl (HE.get 3 rfl) Tryz.underlying34 rfl (by kernel_rfl)) rfl ?_
   have hB := HE.sel [1, 2] (by decide) (by simp)
   simp only [qqN] at hB
   rw [HR.out]
   exact ⟨_, _, rfl, (Sep.toArr (a := a) hB).toNew 0 rfl⟩
 ·have HA := Aside0.mk (show arrB a = false by simpa using hA)
  clear hA
  have HCV := Aside0.mk (show codeV a s data = 1 by exact code_a HA.out)
  have HR := Aside0.mk (show wrR a s data = (a, 1) from wr_no HCV.out (by decide))
  go_enter Tryz.func9, Tryz.ntmps9
  go_upto_region 2 with (first
   | (go_at_call 35; refine (c_copyArr (ArrR_below H.out HI.out.toBelow) HSA.out).mono ?_; rintro e w2 ⟨u2, F2, rfl, hn⟩; have hs2 := HI.out.new hn; obtain ⟨A1, c1, A2, c2, F1, F3, rfl, hs3⟩ := Sep.ofArr hs2; simp only [arrC] at *; have HS2 := Aside0.mk hs3; clear hs2 hs3 hn k0 k1 k2 k3 k4 k5 k6 k7 k8 k9 k10 k11 k12 l0 l1 l2 l3 l4 l5 l6 l7 l8 l9 l10 l11 l12)
   | fail)
  have hB := HS2.out.alloc (g := w2.heap.size) rfl #[.int .i64 a.id, .int .i64 a.gn, .int .i64 a.gs, .slice A1 a.mems.length c1, .int .i64 a.lost, .int .i64 a.built, .int .i64 a.seq, .int .i64 a.tail, .int .i64 a.gen, .slice A2 a.dirty.length c2, .int .i64 a.fuse, .bool a.down, .bool a.broken] 34
  generalize hgz : w2.heap.size = g3 at *
  generalize hww : w2.alloc (.cells #[.int .i64 a.id, .int .i64 a.gn, .int .i64 a.gs, .slice A1 a.mems.length c1, .int .i64 a.lost, .int .i64 a.built, .int .i64 a.seq, .int .i64 a.tail, .int .i64 a.gen, .slice A2 a.dirty.length c2, .int .i64 a.fuse, .bool a.down, .bool a.broken] 34 (0, 0)) = w3 at *
  have HS3 := Aside0.mk hB
  clear hB hgz hww HS2
  obtain ⟨l0, l1, l2, l3, l4, l5, l6, l7, l8, l9, l10, l11, l12⟩ := thirteen (HS3.out.get 0 rfl)
  obtain ⟨k0, k1, k2, k3, k4, k5, k6, k7, k8, k9, k10, k11, k12⟩ := thirteen (HS3.out.get 4 rfl)
  obtain ⟨z0, z1, z2, z3, z4, z5, z6, z7, z8, z9, z10, z11, z12⟩ := thirteen (HS3.out.get 3 rfl)
  have gz := blk_frozen (HS3.out.get 3 rfl)
  go_upto_region 3 with (first
   | (go_at_call 36; refine (c_implArrOk (ArrR_below H.out HS3.out.toBelow) HSA.out).mono ?_; rw [HA.out]; rintro e w4 ⟨rfl, hb⟩; have HS4 := Aside0.mk (HS3.out.below hb); clear hb k0 k1 k2 k3 k4 k5 k6 k7 k8 k9 k10 k11 k12 gz l0 l1 l2 l3 l4 l5 l6 l7 l8 l9 l10 l11 l12 z0 z1 z2 z3 z4 z5 z6 z7 z8 z9 z10 z11 z12; obtain ⟨k0, k1, k2, k3, k4, k5, k6, k7, k8, k9, k10, k11, k12⟩ := thirteen (HS4.out.get 4 rfl); obtain ⟨l0, l1, l2, l3, l4, l5, l6, l7, l8, l9, l10, l11, l12⟩ := thirteen (HS4.out.get 0 rfl); obtain ⟨z0, z1, z2, z3, z4, z5, z6, z7, z8, z9, z10, z11, z12⟩ := thirteen (HS4.out.get 3 rfl); have gz := blk_frozen (HS4.out.get 3 rfl))
   | fail)
  (try clear H); (try clear HI); (try clear HSA); (try clear HX); (try clear HS3); (try clear HS5); (try clear HS6); (try clear HA); (try clear HB); (try clear HDN); (try clear HBR); (try clear HI2); (try clear HSQ); (try clear HGG); (try clear HP); (try clear hgg); (try clear hsq); (try clear k0 k1 k2 k3 k4 k5 k6 k7 k8 k9 k10 k11 k12)
  go_wp2
  have HE := Sep.box13 HS4.out 3 rfl (.int .i64 a.id) (.int .i64 a.gn) (.int .i64 a.gs) (.slice A1 a.mems.length c1) (.int .i64 a.lost) (.int .i64 a.built) (.int .i64 a.seq) (.int .i64 a.tail) (.int .i64 a.gen) (.slice A2 a.dirty.length c2) (.int .i64 a.fuse) (.bool a.down) (.bool a.broken)
  simp only [qqN] at HE
  refine bodyPost_ret (results_ct rfl _ _ (w.heap.size + 1) 34 #[.int .i64 a.id, .int .i64 a.gn, .int .i64 a.gs, .slice A1 a.mems.length c1, .int .i64 a.lost, .int .i64 a.built, .int .i64 a.seq, .int .i64 a.tail, .int .i64 a.gen, .slice A2 a.dirty.length c2, .int .i64 a.fuse, .bool a.down, .bool a.broken] (0, 0) _ rfl (HE.get 3 rfl) Tryz.underlying34 rfl (by kernel_rfl)) rfl ?_
  have hB := HE.sel [1, 2] (by decide) (by simp)
  simp only [qqN] at hB
  rw [HR.out]
  exact ⟨_, _, rfl, (Sep.toArr (a := a) hB).toNew 0 rfl⟩
theorem code_0 {a : ArrV} {s : Int} {data : List Int} (h : codeV a s data = 0) : arrB a = true ∧ dobV a data = true ∧ a.down = false ∧ inR s 0 (a.gs - 1) = true ∧ ¬ a.seq = 60000 ∧ ¬ 59990 ≤ a.gen := by
 cases hA : arrB a with
 | false => rw [code_a hA] at h; cases h
 | true =>
  cases hB : dobV a data with
  | false => rw [code_b hB] at h; cases h
  | true =>
   rw [code_c hA hB] at h
   split at h
   ·cases h
   ·split at h
    ·cases h
    ·split at h
     ·cases h
     ·split at h
      ·cases h
      ·rename_i h1 h2 h3 h4
       simp at h1 h2 h4
       exact ⟨rfl, rfl, h1, h2, by omega, by omega⟩
set_option maxHeartbeats 8000000 in
set_option maxRecDepth 100000 in
theorem c_specStripe {w : World} {v u : Value} {a : ArrV} {s : Int} {data : List Int} (h : ArrR w v a) (hsm : SmallA a) (hx : RK kInt w u data) (hxl : data.length ≤ 1048576) :
  Calls Tryz.prog 6 #[v, .int .i64 s, u] w fun e w' => ∃ u F, e = .returned (.tuple #[u, .int .i64 (wrR a s data).2]) ∧ New w w' (ar F u (wrR a s data).1) := by
 have H := Aside0.mk h
 have HSA := Aside0.mk hsm
 have HX := Aside0.mk hx
 have HXL := Aside0.mk hxl
 obtain ⟨vm, vd, rfl, r1, r2⟩ := h
 have HI := Aside0.mk (((Sep.start w []).alloc (g := w.heap.size) rfl (arrC a vm vd) 34).alloc (g := w.heap.size + 1) (by simp) arrZ 34)
 clear r1 r2 hsm hx
 simp only [arrC, arrZ] at *
 obtain ⟨k0, k1, k2, k3, k4, k5, k6, k7, k8, k9, k10, k11, k12⟩ := thirteen (HI.out.get 1 rfl)
 obtain ⟨l0, l1, l2, l3, l4, l5, l6, l7, l8, l9, l10, l11, l12⟩ := thirteen (HI.out.get 0 rfl)
 by_cases hc0 : codeV a s data = 0
 ·have HCV := Aside0.mk hc0
  clear hc0
  have HCC := Aside0.mk (code_0 HCV.out)
  have HA := Aside0.mk HCC.out.1
  have HB := Aside0.mk HCC.out.2.1
  have HDN := Aside0.mk HCC.out.2.2.1
  have HI2 := Aside0.mk HCC.out.2.2.2.1
  have HSQ := Aside0.mk HCC.out.2.2.2.2.1
  have HGG := Aside0.mk HCC.out.2.2.2.2.2
  have HP := Aside0.mk (arrB_P HA.out)
  have HFU := Aside0.mk (show a.fuse ≤ 1000 by have := HP.out.fuse; simp [inR] at this; omega)
  have hml : 0 < a.mems.length := by have := HP.out.geo; have := HP.out.len; simp [geoB, inR] at *; omega
  have HML := Aside0.mk hml
  clear hml
  have HQ1 := Aside0.mk (show 0 ≤ a.seq ∧ a.seq < 60000 by have h1 := HP.out.seq; have h2 := HP.out.tail; have h3 := HSQ.out; omega)
  have HQ2 := Aside0.mk (show 0 ≤ a.gen ∧ a.gen < 60000 by have h1 := HP.out.gen; have h2 := HGG.out; simp [inR] at h1; omega)
  have HLQ := Aside0.mk (show (data.length : Int) = a.gn - 1 by have h1 := HB.out; unfold dobV at h1; simp at h1; exact h1.1)
  obtain ⟨nv, hnv⟩ : ∃ nv, strV a s data = nv := ⟨_, rfl⟩
  have HNV := Aside0.mk hnv
  have HNM := Aside0.mk (show nv.dirty = a.dirty ∧ nv.mems.length = a.mems.length by rw [← hnv]; exact strV_most_seq a s data)
  have HR := Aside0.mk (show wrR a s data = (nv, downC nv) by rw [wr_yes HCV.out, hnv])
  clear hnv
  go_enter Tryz.func6, Tryz.ntmps6
  go_upto_region 2 with (first
   | (go_at_call 29; refine (c_l6Copy (ArrR_below H.out HI.out.toBelow) HSA.out).mono ?_; rintro e w2 ⟨u2, F2, rfl, hn⟩; have hs2 := HI.out.new hn; obtain ⟨A1, c1, A2, c2, F1, F3, rfl, hs3⟩ := Sep.ofArr hs2; simp only [arrC] at *; have HS2 := Aside0.mk hs3; clear hs2 hs3 hn k0 k1 k2 k3 k4 k5 k6 k7 k8 k9 k10 k11 k12 l0 l1 l2 l3 l4 l5 l6 l7 l8 l9 l10 l11 l12)
   | fail)
  have hB := HS2.out.alloc (g := w2.heap.size) rfl #[.int .i64 a.id, .int .i64 a.gn, .int .i64 a.gs, .slice A1 a.mems.length c1, .int .i64 a.lost, .int .i64 a.built, .int .i64 a.seq, .int .i64 a.tail, .int .i64 a.gen, .slice A2 a.dirty.length c2, .int .i64 a.fuse, .bool a.down, .bool a.broken] 34
  generalize hgz : w2.heap.size = g3 at *
  generalize hww : w2.alloc (.cells #[.int .i64 a.id, .int .i64 a.gn, .int .i64 a.gs, .slice A1 a.mems.length c1, .int .i64 a.lost, .int .i64 a.built, .int .i64 a.seq, .int .i64 a.tail, .int .i64 a.gen, .slice A2 a.dirty.length c2, .int .i64 a.fuse, .bool a.down, .bool a.broken] 34 (0, 0)) = w3 at *
  have HS3 := Aside0.mk hB
  clear hB hgz hww HS2
  obtain ⟨l0, l1, l2, l3, l4, l5, l6, l7, l8, l9, l10, l11, l12⟩ := thirteen (HS3.out.get 0 rfl)
  obtain ⟨k0, k1, k2, k3, k4, k5, k6, k7, k8, k9, k10, k11, k12⟩ := thirteen (HS3.out.get 4 rfl)
  obtain ⟨z0, z1, z2, z3, z4, z5, z6, z7, z8, z9, z10, z11, z12⟩ := thirteen (HS3.out.get 3 rfl)
  have gz := blk_frozen (HS3.out.get 3 rfl)
  obtain ⟨hh, cap9, hv9, _, _⟩ := O_form (show oMem.O 89 w3 F1 (.slice A1 a.mems.length c1) a.mems from HS3.out.get 1 rfl) HML.out
  obtain rfl := (Value.slice.inj hv9).1
  clear hv9
  go_upto_region 6 with (first
   | (go_at_call 31; refine (c_specStrF HS4.out rfl HSA.out.1 HDN.out HFU.out HSA.out.2.1 (fun w' M h => h.rk HX.out) (fun w' M h => O_RK (show oWr.O 91 w' F3 (.slice A2 a.dirty.length c2) a.dirty from h.get (r := rw_ oWr 91 F3 (.slice A2 a.dirty.length c2) a.dirty) M.length (by simp))) HP.out.geo HP.out.len HI2.out HLQ.out HQ1.out HP.out.tail HQ2.out).mono ?_; rw [HNV.out]; rintro e w8 ⟨F8, rfl, hs8⟩; simp only [arrC] at hs8; have HS8 := Aside0.mk hs8; clear hs8  gz l0 l1 l2 l3 l4 l5 l6 l7 l8 l9 l10 l11 l12 z0 z1 z2 z3 z4 z5 z6 z7 z8 z9 z10 z11 z12; obtain ⟨l0, l1, l2, l3, l4, l5, l6, l7, l8, l9, l10, l11, l12⟩ := thirteen (HS8.out.get 0 rfl); obtain ⟨z0, z1, z2, z3, z4, z5, z6, z7, z8, z9, z10, z11, z12⟩ := thirteen (HS8.out.get 3 rfl); have gz := blk_frozen (HS8.out.get 3 rfl))
   | (go_at_call 30; refine (c_l7Code (s := s) (ArrR_below H.out HS3.out.toBelow) HSA.out (HS3.out.rk HX.out) HXL.out).mono ?_; rw [HCV.out]; rintro e w4 ⟨rfl, hb⟩; have HS4 := Aside0.mk (HS3.out.below hb); clear hb k0 k1 k2 k3 k4 k5 k6 k7 k8 k9 k10 k11 k12 gz l0 l1 l2 l3 l4 l5 l6 l7 l8 l9 l10 l11 l12 z0 z1 z2 z3 z4 z5 z6 z7 z8 z9 z10 z11 z12; obtain ⟨l0, l1, l2, l3, l4, l5, l6, l7, l8, l9, l10, l11, l12⟩ := thirteen (HS4.out.get 0 rfl); obtain ⟨z0, z1, z2, z3, z4, z5, z6, z7, z8, z9, z10, z11, z12⟩ := thirteen (HS4.out.get 3 rfl); have gz := blk_frozen (HS4.out.get 3 rfl))
   | fail)
  (try clear H); (try clear HI); (try clear HSA); (try clear HX); (try clear HS3); (try clear HS4); (try clear HS5); (try clear HS6); (try clear HS7); (try clear HA); (try clear HB); (try clear HDN); (try clear HBR); (try clear HI2); (try clear HSQ); (try clear HGG); (try clear HP); (try clear HFU); (try clear HML); (try clear HQ1); (try clear HQ2); (try clear HLQ); (try clear hor); (try clear hsb); (try clear hgd); (try clear hgg); (try clear hgg2); (try clear hsq); (try clear HNV); (try clear hnd); (try clear HCC)
  go_wp2
  have HE := Sep.box13 HS8.out 3 rfl (.int .i64 nv.id) (.int .i64 nv.gn) (.int .i64 nv.gs) (.slice (some ⟨hh, 0, none⟩) a.mems.length c1) (.int .i64 nv.lost) (.int .i64 nv.built) (.int .i64 nv.seq) (.int .i64 nv.tail) (.int .i64 nv.gen) (.slice A2 a.dirty.length c2) (.int .i64 nv.fuse) (.bool nv.down) (.bool nv.broken)
  simp only [qqN] at HE
  refine bodyPost_ret (results_ct rfl _ _ (w.heap.size + 1) 34 #[.int .i64 nv.id, .int .i64 nv.gn, .int .i64 nv.gs, .slice (some ⟨hh, 0, none⟩) a.mems.length c1, .int .i64 nv.lost, .int .i64 nv.built, .int .i64 nv.seq, .int .i64 nv.tail, .int .i64 nv.gen, .slice A2 a.dirty.length c2, .int .i64 nv.fuse, .bool nv.down, .bool nv.broken] (0, 0) _ rfl (HE.get 3 rfl) Tryz.underlying34 rfl (by kernel_rfl)) rfl ?_
  have hB := HE.sel [1, 2] (by decide) (by simp)
  simp only [qqN] at hB
  rw [HR.out]
  skip
  exact ⟨_, _, rfl, (Sep.toArr (a := nv) (by rw [HNM.out.1]; exact hB)).toNew 0 rfl⟩
 ·obtain ⟨cv, hcv⟩ : ∃ cv, codeV a s data = cv := ⟨_, rfl⟩
  have HCV := Aside0.mk hcv
  rw [hcv] at hc0
  clear hcv
  have HR := Aside0.mk (show wrR a s data = (a, cv) from wr_no HCV.out hc0)
  go_enter Tryz.func6, Tryz.ntmps6
  go_upto_region 2 with (first
   | (go_at_call 29; refine (c_l6Copy (ArrR_below H.out HI.out.toBelow) HSA.out).mono ?_; rintro e w2 ⟨u2, F2, rfl, hn⟩; have hs2 := HI.out.new hn; obtain ⟨A1, c1, A2, c2, F1, F3, rfl, hs3⟩ := Sep.ofArr hs2; simp only [arrC] at *; have HS2 := Aside0.mk hs3; clear hs2 hs3 hn k0 k1 k2 k3 k4 k5 k6 k7 k8 k9 k10 k11 k12 l0 l1 l2 l3 l4 l5 l6 l7 l8 l9 l10 l11 l12)
   | fail)
  have hB := HS2.out.alloc (g := w2.heap.size) rfl #[.int .i64 a.id, .int .i64 a.gn, .int .i64 a.gs, .slice A1 a.mems.length c1, .int .i64 a.lost, .int .i64 a.built, .int .i64 a.seq, .int .i64 a.tail, .int .i64 a.gen, .slice A2 a.dirty.length c2, .int .i64 a.fuse, .bool a.down, .bool a.broken] 34
  generalize hgz : w2.heap.size = g3 at *
  generalize hww : w2.alloc (.cells #[.int .i64 a.id, .int .i64 a.gn, .int .i64 a.gs, .slice A1 a.mems.length c1, .int .i64 a.lost, .int .i64 a.built, .int .i64 a.seq, .int .i64 a.tail, .int .i64 a.gen, .slice A2 a.dirty.length c2, .int .i64 a.fuse, .bool a.down, .bool a.broken] 34 (0, 0)) = w3 at *
  have HS3 := Aside0.mk hB
  clear hB hgz hww HS2
  obtain ⟨l0, l1, l2, l3, l4, l5, l6, l7, l8, l9, l10, l11, l12⟩ := thirteen (HS3.out.get 0 rfl)
  obtain ⟨k0, k1, k2, k3, k4, k5, k6, k7, k8, k9, k10, k11, k12⟩ := thirteen (HS3.out.get 4 rfl)
  obtain ⟨z0, z1, z2, z3, z4, z5, z6, z7, z8, z9, z10, z11, z12⟩ := thirteen (HS3.out.get 3 rfl)
  have gz := blk_frozen (HS3.out.get 3 rfl)
  go_upto_region 4 with (first
   | (go_at_call 30; refine (c_l7Code (s := s) (ArrR_below H.out HS3.out.toBelow) HSA.out (HS3.out.rk HX.out) HXL.out).mono ?_; rw [HCV.out]; rintro e w4 ⟨rfl, hb⟩; have HS4 := Aside0.mk (HS3.out.below hb); clear hb k0 k1 k2 k3 k4 k5 k6 k7 k8 k9 k10 k11 k12 gz l0 l1 l2 l3 l4 l5 l6 l7 l8 l9 l10 l11 l12 z0 z1 z2 z3 z4 z5 z6 z7 z8 z9 z10 z11 z12; obtain ⟨l0, l1, l2, l3, l4, l5, l6, l7, l8, l9, l10, l11, l12⟩ := thirteen (HS4.out.get 0 rfl); obtain ⟨z0, z1, z2, z3, z4, z5, z6, z7, z8, z9, z10, z11, z12⟩ := thirteen (HS4.out.get 3 rfl); have gz := blk_frozen (HS4.out.get 3 rfl))
   | fail)
  (try clear H); (try clear HI); (try clear HSA); (try clear HX); (try clear HS3)
  go_wp2
  have HE := Sep.box13 HS4.out 3 rfl (.int .i64 a.id) (.int .i64 a.gn) (.int .i64 a.gs) (.slice A1 a.mems.length c1) (.int .i64 a.lost) (.int .i64 a.built) (.int .i64 a.seq) (.int .i64 a.tail) (.int .i64 a.gen) (.slice A2 a.dirty.length c2) (.int .i64 a.fuse) (.bool a.down) (.bool a.broken)
  simp only [qqN] at HE
  refine bodyPost_ret (results_ct rfl _ _ (w.heap.size + 1) 34 #[.int .i64 a.id, .int .i64 a.gn, .int .i64 a.gs, .slice A1 a.mems.length c1, .int .i64 a.lost, .int .i64 a.built, .int .i64 a.seq, .int .i64 a.tail, .int .i64 a.gen, .slice A2 a.dirty.length c2, .int .i64 a.fuse, .bool a.down, .bool a.broken] (0, 0) _ rfl (HE.get 3 rfl) Tryz.underlying34 rfl (by kernel_rfl)) rfl ?_
  have hB := HE.sel [1, 2] (by decide) (by simp)
  simp only [qqN] at hB
  rw [HR.out]
  exact ⟨_, _, rfl, (Sep.toArr (a := a) hB).toNew 0 rfl⟩
end AQStripe
end Go.Proofs.YtggmifnblcjdfaaGreat
