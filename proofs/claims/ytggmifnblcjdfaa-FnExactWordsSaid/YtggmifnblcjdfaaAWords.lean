/- The words of a stripe, of both. Printed by mkaws.py. -/
import Derived.Test.YtggmifnblcjdfaaAWord
import Derived.Test.YtggmifnblcjdfaaAOkA
namespace Go.Proofs.Ytggmifnblcjdfaa.AWords
open Go.RowKit Go.Proofs.Ytggmifnblcjdfaa.RJ Go.Proofs.Ytggmifnblcjdfaa.RP Go.Proofs.YtggmifnblcjdfaaW.PrintWords Go.Proofs.Ytggmifnblcjdfaa.Fp Go.Proofs.Ytggmifnblcjdfaa.FpStep Go.Proofs.Ytggmifnblcjdfaa.MInt Go.Proofs.Ytggmifnblcjdfaa.MKinds Go.Proofs.Ytggmifnblcjdfaa.MRead Go.Proofs.Ytggmifnblcjdfaa.MMake Go.Proofs.Ytggmifnblcjdfaa.MPut Go.Proofs.Ytggmifnblcjdfaa.MHeld Go.Proofs.Ytggmifnblcjdfaa.MOk Go.Proofs.Ytggmifnblcjdfaa.MSuper Go.Proofs.Ytggmifnblcjdfaa.Sep Go.Proofs.Ytggmifnblcjdfaa.SepStep Go.Proofs.Ytggmifnblcjdfaa.AKinds Go.Proofs.Ytggmifnblcjdfaa.AMake Go.Proofs.Ytggmifnblcjdfaa.AEnt Go.Proofs.Ytggmifnblcjdfaa.ALaw Go.Proofs.Ytggmifnblcjdfaa.AArr Go.Proofs.Ytggmifnblcjdfaa.AOk Go.Proofs.Ytggmifnblcjdfaa.MVal Go.Proofs.Ytggmifnblcjdfaa.MReadS Go.Proofs.Ytggmifnblcjdfaa.ALive Go.Proofs.Ytggmifnblcjdfaa.AXor Go.Proofs.Ytggmifnblcjdfaa.AWord Go.Proofs.Ytggmifnblcjdfaa.AOkI Go.Proofs.Ytggmifnblcjdfaa.AOkA
set_option linter.unusedVariables false
set_option linter.unusedSimpArgs false
/-- The first i words of a stripe, and which disk is lost. -/
def wsV (a : ArrV) (s : Int) : Nat → Option (List Int × Int)
  | 0 => some ([], -1)
  | i + 1 => match wsV a s i with
    | none => none
    | some (l, lost) => if (wordV a i s).2 then some (l ++ [(wordV a i s).1], lost) else if 0 ≤ lost then none else some (l ++ [(wordV a i s).1], (i : Int))
def wsEnd : Option (List Int × Int) → List Int × Bool
  | none => ([], false)
  | some (l, lost) => if 0 ≤ lost then (l.set lost.toNat (missV l lost), true) else (l, true)
def wsR (a : ArrV) (s : Int) : List Int × Bool := wsEnd (wsV a s a.mems.length)
theorem wsV_none {a : ArrV} {s : Int} {i : Nat} (h : wsV a s i = none) : ∀ d, wsV a s (i + d) = none
  | 0 => h
  | d + 1 => by rw [← Nat.add_assoc, wsV, wsV_none h d]
theorem wsR_none {a : ArrV} {s : Int} {i : Nat} (h : wsV a s (i + 1) = none) (hi : i < a.mems.length) : wsR a s = ([], false) := by
  have := wsV_none h (a.mems.length - (i + 1))
  rw [show i + 1 + (a.mems.length - (i + 1)) = a.mems.length by omega] at this
  unfold wsR; rw [this]; rfl
theorem wsV_len {a : ArrV} {s : Int} : ∀ (i : Nat) (l : List Int) (k : Int), wsV a s i = some (l, k) → l.length = i
  | 0, l, k, h => by simp [wsV] at h; obtain ⟨rfl, _⟩ := h; rfl
  | i + 1, l, k, h => by
    unfold wsV at h
    cases hq : wsV a s i with
    | none => rw [hq] at h; cases h
    | some p =>
      obtain ⟨l', k'⟩ := p
      have := wsV_len i l' k' hq
      rw [hq] at h
      simp only at h
      split at h
      · simp at h; obtain ⟨rfl, _⟩ := h; simp [this]
      · split at h
        · cases h
        · simp at h; obtain ⟨rfl, _⟩ := h; simp [this]
theorem wsR_len (a : ArrV) (s : Int) : (wsR a s).1.length ≤ a.mems.length := by
  unfold wsR
  cases hq : wsV a s a.mems.length with
  | none => simp [wsEnd]
  | some p =>
    obtain ⟨l, k⟩ := p
    have := wsV_len _ _ _ hq
    unfold wsEnd
    simp only
    split <;> simp <;> omega
def wordsB (a : ArrV) (s : Int) : Bool := arrB a && (!a.broken && inR s 0 (a.gs - 1))
def wordsR (a : ArrV) (s : Int) : List Int × Bool := if wordsB a s then wsR a s else ([], false)
theorem wordsR_len (a : ArrV) (s : Int) : (wordsR a s).1.length ≤ a.mems.length := by
  unfold wordsR
  split
  · exact wsR_len a s
  · simp
theorem wordsR_no {a : ArrV} {s : Int} (h : wordsB a s = false) : wordsR a s = ([], false) := by unfold wordsR; rw [h]; rfl
theorem wordsR_yes {a : ArrV} {s : Int} (h : wordsB a s = true) : wordsR a s = wsR a s := by unfold wordsR; rw [if_pos h]
set_option maxHeartbeats 4000000 in
set_option maxRecDepth 100000 in
theorem c_specL6Words {w : World} {v : Value} {a : ArrV} {s : Int} (h : ArrR w v a) (hsm : SmallA a) (hlen : (a.mems.length : Int) = a.gn) :
    Calls Try.prog 67 #[v, .int .i64 s] w fun e w' => ∃ u F, e = .returned (.tuple #[u, .bool (wsR a s).2]) ∧ New w w' (rw_ oInt 3 F u (wsR a s).1) := by
  have H := Aside0.mk h
  have HSM := Aside0.mk hsm
  have HML := Aside0.mk hsm.1
  obtain ⟨vm, vd, rfl, r1, r2⟩ := h
  obtain ⟨A1, c1, rfl, hl1, _⟩ := id r1
  have lm := RK_len r1
  have hmlb := hsm.1
  clear r1 r2 hl1 hsm
  have HLEN := Aside0.mk hlen
  clear hlen
  have H0 := Aside0.mk ((Sep.start w []).alloc (g := w.heap.size) rfl (arrC a (.slice A1 a.mems.length c1) vd) 34)
  have HI := Aside0.mk (H0.out.lit (g := w.heap.size + 1) (by simp) oInt 3)
  obtain ⟨id, gn, gs, mems, lost, built, seq, tail, gen, dirty, fuse, down, broken⟩ := a
  simp only [arrC] at *
  obtain ⟨k0, k1, k2, k3, k4, k5, k6, k7, k8, k9, k10, k11, k12⟩ := thirteen (HI.out.get 1 rfl)
  go_enter Try.func67, Try.ntmps67
  go_wp2
  go_loopw [6, 7, 8] (fun v6 v7 v8 wr => ∃ (i : Nat) (l : List Int) (ms : Int) (A : Option Addr) (c : Nat) (F : List Nat), i ≤ mems.length ∧ v8 = .int .i64 i ∧ v6 = .slice A i c ∧ v7 = .int .i64 ms ∧ Aside0 (l.length = i) ∧ (-1 ≤ ms ∧ ms < (i : Int)) ∧ Aside0 (wsV (⟨id, gn, gs, mems, lost, built, seq, tail, gen, dirty, fuse, down, broken⟩ : ArrV) s i = some (l, ms)) ∧ Aside0 (Sep w [] wr [rw_ oInt 3 F (.slice A i c) l, bx w.heap.size 34 #[.int .i64 id, .int .i64 gn, .int .i64 gs, .slice A1 mems.length c1, .int .i64 lost, .int .i64 built, .int .i64 seq, .int .i64 tail, .int .i64 gen, vd, .int .i64 fuse, .bool down, .bool broken]])) (fun _ _ v8 _ => mems.length - (intOf v8).toNat)
  case atStart => exact ⟨0, [], -1, _, _, _, by omega, rfl, rfl, rfl, ⟨rfl⟩, ⟨by omega, by omega⟩, ⟨rfl⟩, HI⟩
  case round =>
    clear HI k0 k1 k2 k3 k4 k5 k6 k7 k8 k9 k10 k11 k12
    obtain ⟨i, l, ms, A, c, F, hi, rfl, rfl, rfl, HL, hlo, HW, HR⟩ := hrel
    obtain ⟨k0, k1, k2, k3, k4, k5, k6, k7, k8, k9, k10, k11, k12⟩ := thirteen (HR.out.get 1 rfl)
    by_cases hlt : i < mems.length
    · have hig : (i : Int) < (mems.length : Int) := by omega
      have hgn : (i : Int) < gn := by have := HLEN.out; omega
      obtain ⟨⟨pn, pok⟩, hp⟩ : ∃ p, wordV (⟨id, gn, gs, mems, lost, built, seq, tail, gen, dirty, fuse, down, broken⟩ : ArrV) i s = p := ⟨_, rfl⟩
      have HP := Aside0.mk hp
      clear hp
      have HST : wsV (⟨id, gn, gs, mems, lost, built, seq, tail, gen, dirty, fuse, down, broken⟩ : ArrV) s (i + 1) = (if pok then some (l ++ [pn], ms) else if 0 ≤ ms then none else some (l ++ [pn], (i : Int))) := by simp only [wsV, HW.out, HP.out]
      replace HST := Aside0.mk HST
      cases pok
      · by_cases hge : 0 ≤ ms
        · have hgeb : decide (0 ≤ ms) = true := decide_eq_true hge
          have HF := Aside0.mk (wsR_none (by rw [HST.out, if_neg (by decide), if_pos hge]) hlt)
          go_wp2_with (first
            | (go_at_call 104; refine (c_specWord (ArrR_below H.out HR.out.toBelow) HSM.out hlt).mono ?_; rw [HP.out]; rintro e w2 ⟨rfl, hb⟩; have hs2 := HR.out.below hb; have HS2 := Aside0.mk hs2; clear hs2 hb k0 k1 k2 k3 k4 k5 k6 k7 k8 k9 k10 k11 k12; obtain ⟨k0, k1, k2, k3, k4, k5, k6, k7, k8, k9, k10, k11, k12⟩ := thirteen (HS2.out.get 1 rfl))
            | fail)
          go_ret2
          rw [HF.out]
          first | exact ⟨_, _, rfl, (HS2.out.lit rfl oInt 3).toNew 0 rfl⟩ | exact ⟨_, rfl, _, (HS2.out.lit rfl oInt 3).toNew 0 rfl⟩
        · have hgeb : decide (0 ≤ ms) = false := decide_eq_false hge
          go_wp2_with (first
            | (go_at_call 104; refine (c_specWord (ArrR_below H.out HR.out.toBelow) HSM.out hlt).mono ?_; rw [HP.out]; rintro e w2 ⟨rfl, hb⟩; have hs2 := HR.out.below hb; have HS2 := Aside0.mk hs2; clear hs2 hb k0 k1 k2 k3 k4 k5 k6 k7 k8 k9 k10 k11 k12; obtain ⟨k0, k1, k2, k3, k4, k5, k6, k7, k8, k9, k10, k11, k12⟩ := thirteen (HS2.out.get 1 rfl))
            | (at_builtin; (refine app_one0 (d := oInt) (y := pn) HS2.out rfl _ _ 44 (.int .i64 0) 8 (by rfl) Try.underlying44 (by kernel_rfl) rfl (by decide) (by decide) [.int .i64 pn] (by first | exact ⟨rfl, rfl⟩ | rfl | simp [oInt, Od.int]) (by rfl) (by rfl) rfl (n := i) HL.out (by omega) ?_); intro A3 c3 w3 F3 hs3; have HS3 := Aside0.mk hs3; clear hs3)
            | fail)
          go_roundw
          case rel => exact ⟨i + 1, l ++ [pn], i, A3, c3, F3, by omega, by go_num, rfl, rfl, ⟨by simp [HL.out]⟩, ⟨by omega, by omega⟩, ⟨by rw [HST.out]; rw [if_neg (by decide), if_neg (by omega)]⟩, HS3⟩
          case measure => simp [intOf]; omega
      · go_wp2_with (first
          | (go_at_call 104; refine (c_specWord (ArrR_below H.out HR.out.toBelow) HSM.out hlt).mono ?_; rw [HP.out]; rintro e w2 ⟨rfl, hb⟩; have hs2 := HR.out.below hb; have HS2 := Aside0.mk hs2; clear hs2 hb k0 k1 k2 k3 k4 k5 k6 k7 k8 k9 k10 k11 k12; obtain ⟨k0, k1, k2, k3, k4, k5, k6, k7, k8, k9, k10, k11, k12⟩ := thirteen (HS2.out.get 1 rfl))
          | (at_builtin; (refine app_one0 (d := oInt) (y := pn) HS2.out rfl _ _ 44 (.int .i64 0) 8 (by rfl) Try.underlying44 (by kernel_rfl) rfl (by decide) (by decide) [.int .i64 pn] (by first | exact ⟨rfl, rfl⟩ | rfl | simp [oInt, Od.int]) (by rfl) (by rfl) rfl (n := i) HL.out (by omega) ?_); intro A3 c3 w3 F3 hs3; have HS3 := Aside0.mk hs3; clear hs3)
          | fail)
        go_roundw
        case rel => exact ⟨i + 1, l ++ [pn], ms, A3, c3, F3, by omega, by go_num, rfl, rfl, ⟨by simp [HL.out]⟩, ⟨by omega, by omega⟩, ⟨by rw [HST.out]; rfl⟩, HS3⟩
        case measure => simp [intOf]; omega
    · obtain rfl : i = mems.length := by omega
      have hgn : ¬ (mems.length : Int) < gn := by have := HLEN.out; omega
      have HV := Aside0.mk (show wsR (⟨id, gn, gs, mems, lost, built, seq, tail, gen, dirty, fuse, down, broken⟩ : ArrV) s = wsEnd (some (l, ms)) by unfold wsR; rw [HW.out])
      by_cases hge : 0 ≤ ms
      · obtain ⟨q, rfl⟩ : ∃ q : Nat, ms = (q : Int) := ⟨ms.toNat, by omega⟩
        have hq : q < l.length := by rw [HL.out]; omega
        obtain ⟨g, cap, hg9, _, _⟩ := O_form (show oInt.O 3 wr F (.slice A mems.length c) l from HR.out.get 0 rfl) (by omega)
        obtain rfl := (Value.slice.inj hg9).1
        clear hg9
        have HV2 := Aside0.mk (show wsR (⟨id, gn, gs, mems, lost, built, seq, tail, gen, dirty, fuse, down, broken⟩ : ArrV) s = (l.set q (missV l (q : Int)), true) by rw [HV.out, wsEnd, if_pos (by omega), Int.toNat_natCast])
        have hgeb : decide ((0 : Int) ≤ (q : Int)) = true := decide_eq_true (by omega)
        have q0 : (0 : Int) ≤ (q : Int) := by omega
        have ql : (q : Int) < (mems.length : Int) := by omega
        have hll := HL.out
        have HLL := Aside0.mk hll
        have hl9 : l.length ≤ 16777216 := by rw [HLL.out]; exact HML.out
        clear hll hge
        go_wp2_with (first
          | (go_at_call 105; refine (c_specMissing (O_RK (show oInt.O 3 wr F _ l from HR.out.get 0 rfl))).mono ?_; rintro e w2 ⟨rfl, hb⟩; have hs2 := HR.out.dr hb; have HS2 := Aside0.mk hs2; clear hs2 hb; obtain ⟨u9, cc1, cc2⟩ := O_cells (d := oInt) (i := q) (t := 0) (HS2.out.get 0 rfl) hq (by decide); simp only [show oInt.sz = 1 from rfl, Nat.mul_one, Nat.add_zero] at cc1 cc2)
          | fail)
        go_ret2
        rw [HV2.out]
        first | exact ⟨_, _, rfl, (HS2.out.seti 0 rfl hq (missV l (q : Int))).toNew 0 rfl⟩ | exact ⟨_, rfl, _, (HS2.out.seti 0 rfl hq (missV l (q : Int))).toNew 0 rfl⟩
      · have hgeb : decide (0 ≤ ms) = false := decide_eq_false hge
        have HV2 := Aside0.mk (show wsR (⟨id, gn, gs, mems, lost, built, seq, tail, gen, dirty, fuse, down, broken⟩ : ArrV) s = (l, true) by rw [HV.out, wsEnd, if_neg hge])
        go_wp2
        go_ret2
        rw [HV2.out]
        first | exact ⟨_, _, rfl, HR.out.toNew 0 rfl⟩ | exact ⟨_, rfl, _, HR.out.toNew 0 rfl⟩
set_option maxHeartbeats 4000000 in
set_option maxRecDepth 100000 in
theorem c_specWords {w : World} {v : Value} {a : ArrV} {s : Int} (h : ArrR w v a) (hsm : SmallA a) :
    Calls Try.prog 23 #[v, .int .i64 s] w fun e w' => ∃ u F, e = .returned (.tuple #[u, .bool (wordsR a s).2]) ∧ New w w' (rw_ oInt 3 F u (wordsR a s).1) := by
  have H := Aside0.mk h
  have HSM := Aside0.mk hsm
  have HML := Aside0.mk hsm.1
  obtain ⟨vm, vd, rfl, r1, r2⟩ := h
  obtain ⟨A1, c1, rfl, hl1, _⟩ := id r1
  have lm := RK_len r1
  have hmlb := hsm.1
  clear r1 r2 hl1 hsm
  have HS := Aside0.mk ((Sep.start w []).alloc (g := w.heap.size) rfl (arrC a (.slice A1 a.mems.length c1) vd) 34)
  obtain ⟨id, gn, gs, mems, lost, built, seq, tail, gen, dirty, fuse, down, broken⟩ := a
  simp only [arrC] at *
  obtain ⟨k0, k1, k2, k3, k4, k5, k6, k7, k8, k9, k10, k11, k12⟩ := thirteen (HS.out.get 0 rfl)
  by_cases hA : arrB (⟨id, gn, gs, mems, lost, built, seq, tail, gen, dirty, fuse, down, broken⟩ : ArrV) = true
  · have HA := Aside0.mk hA
    have HP := Aside0.mk (arrB_P hA)
    have hgs : 1 ≤ gs ∧ gs ≤ 8 := by have := HP.out.geo; simp [geoB, inR] at this; omega
    have HG := Aside0.mk HP.out.geo
    have wgs : IntKind.i64.wrap (gs - 1) = gs - 1 := IntWalk.i64_in _ (by omega)
    clear hA hgs
    cases hbr : broken
    · subst hbr
      by_cases hin : inR s 0 (gs - 1) = true
      · have HIN := Aside0.mk hin
        clear hin
        have HY := Aside0.mk (wordsR_yes (show wordsB (⟨id, gn, gs, mems, lost, built, seq, tail, gen, dirty, fuse, down, false⟩ : ArrV) s = true by unfold wordsB; rw [HA.out]; simp only; rw [HIN.out]; rfl))
        go_enter Try.func23, Try.ntmps23
        go_wp2_with (first
          | (go_at_call 16; refine (c_specArrOk (ArrR_below H.out HS.out.toBelow) HSM.out).mono ?_; rw [HA.out]; rintro e w1 ⟨rfl, hb⟩; have hs1 := HS.out.below hb; clear hb HS; have HS := Aside0.mk hs1; clear hs1 k0 k1 k2 k3 k4 k5 k6 k7 k8 k9 k10 k11 k12; obtain ⟨k0, k1, k2, k3, k4, k5, k6, k7, k8, k9, k10, k11, k12⟩ := thirteen (HS.out.get 0 rfl))
          | (go_at_call 38; refine (c_l1In _ _ _ _).mono ?_; rw [HIN.out]; rintro e w2 ⟨rfl, hb⟩; have hs1 := HS.out.dr hb; clear hb HS; have HS := Aside0.mk hs1; clear hs1 k0 k1 k2 k3 k4 k5 k6 k7 k8 k9 k10 k11 k12; obtain ⟨k0, k1, k2, k3, k4, k5, k6, k7, k8, k9, k10, k11, k12⟩ := thirteen (HS.out.get 0 rfl))
          | (go_at_call 67; refine (c_specL6Words (ArrR_below H.out HS.out.toBelow) HSM.out HP.out.len).mono ?_; rintro e w3 ⟨u, F, rfl, hn⟩; have HS3 := Aside0.mk (HS.out.new hn); clear hn)
          | fail)
        go_ret2
        rw [HY.out]
        exact ⟨u, F, rfl, HS3.out.toNew 0 rfl⟩
      · simp only [Bool.not_eq_true] at hin
        have HIN := Aside0.mk hin
        clear hin
        have HN := Aside0.mk (wordsR_no (show wordsB (⟨id, gn, gs, mems, lost, built, seq, tail, gen, dirty, fuse, down, false⟩ : ArrV) s = false by unfold wordsB; rw [HA.out]; simp only; rw [HIN.out]; rfl))
        go_enter Try.func23, Try.ntmps23
        go_wp2_with (first
          | (go_at_call 16; refine (c_specArrOk (ArrR_below H.out HS.out.toBelow) HSM.out).mono ?_; rw [HA.out]; rintro e w1 ⟨rfl, hb⟩; have hs1 := HS.out.below hb; clear hb HS; have HS := Aside0.mk hs1; clear hs1 k0 k1 k2 k3 k4 k5 k6 k7 k8 k9 k10 k11 k12; obtain ⟨k0, k1, k2, k3, k4, k5, k6, k7, k8, k9, k10, k11, k12⟩ := thirteen (HS.out.get 0 rfl))
          | (go_at_call 38; refine (c_l1In _ _ _ _).mono ?_; rw [HIN.out]; rintro e w2 ⟨rfl, hb⟩; have hs1 := HS.out.dr hb; clear hb HS; have HS := Aside0.mk hs1; clear hs1 k0 k1 k2 k3 k4 k5 k6 k7 k8 k9 k10 k11 k12; obtain ⟨k0, k1, k2, k3, k4, k5, k6, k7, k8, k9, k10, k11, k12⟩ := thirteen (HS.out.get 0 rfl))
          | fail)
        go_ret2
        rw [HN.out]
        first | exact ⟨_, _, rfl, (HS.out.lit rfl oInt 3).toNew 0 rfl⟩ | exact ⟨_, rfl, _, (HS.out.lit rfl oInt 3).toNew 0 rfl⟩
    · subst hbr
      have HN := Aside0.mk (wordsR_no (show wordsB (⟨id, gn, gs, mems, lost, built, seq, tail, gen, dirty, fuse, down, true⟩ : ArrV) s = false by unfold wordsB; rw [HA.out]; rfl))
      go_enter Try.func23, Try.ntmps23
      go_wp2_with (first
        | (go_at_call 16; refine (c_specArrOk (ArrR_below H.out HS.out.toBelow) HSM.out).mono ?_; rw [HA.out]; rintro e w1 ⟨rfl, hb⟩; have hs1 := HS.out.below hb; clear hb HS; have HS := Aside0.mk hs1; clear hs1 k0 k1 k2 k3 k4 k5 k6 k7 k8 k9 k10 k11 k12; obtain ⟨k0, k1, k2, k3, k4, k5, k6, k7, k8, k9, k10, k11, k12⟩ := thirteen (HS.out.get 0 rfl))
        | fail)
      go_ret2
      rw [HN.out]
      first | exact ⟨_, _, rfl, (HS.out.lit rfl oInt 3).toNew 0 rfl⟩ | exact ⟨_, rfl, _, (HS.out.lit rfl oInt 3).toNew 0 rfl⟩
  · simp only [Bool.not_eq_true] at hA
    have HA := Aside0.mk hA
    clear hA
    have HN := Aside0.mk (wordsR_no (show wordsB (⟨id, gn, gs, mems, lost, built, seq, tail, gen, dirty, fuse, down, broken⟩ : ArrV) s = false by unfold wordsB; rw [HA.out]; rfl))
    go_enter Try.func23, Try.ntmps23
    go_wp2_with (first
      | (go_at_call 16; refine (c_specArrOk (ArrR_below H.out HS.out.toBelow) HSM.out).mono ?_; rw [HA.out]; rintro e w1 ⟨rfl, hb⟩; have hs1 := HS.out.below hb; clear hb HS; have HS := Aside0.mk hs1; clear hs1 k0 k1 k2 k3 k4 k5 k6 k7 k8 k9 k10 k11 k12; obtain ⟨k0, k1, k2, k3, k4, k5, k6, k7, k8, k9, k10, k11, k12⟩ := thirteen (HS.out.get 0 rfl))
      | fail)
    go_ret2
    rw [HN.out]
    first | exact ⟨_, _, rfl, (HS.out.lit rfl oInt 3).toNew 0 rfl⟩ | exact ⟨_, rfl, _, (HS.out.lit rfl oInt 3).toNew 0 rfl⟩
set_option maxHeartbeats 4000000 in
set_option maxRecDepth 100000 in
theorem c_implWords {w : World} {v : Value} {a : ArrV} {s : Int} (h : ArrR w v a) (hsm : SmallA a) :
    Calls Try.prog 24 #[v, .int .i64 s] w fun e w' => ∃ u F, e = .returned (.tuple #[u, .bool (wordsR a s).2]) ∧ New w w' (rw_ oInt 3 F u (wordsR a s).1) := by
  have H := Aside0.mk h
  have HSM := Aside0.mk hsm
  have HML := Aside0.mk hsm.1
  obtain ⟨vm, vd, rfl, r1, r2⟩ := h
  obtain ⟨A1, c1, rfl, hl1, _⟩ := id r1
  have lm := RK_len r1
  have hmlb := hsm.1
  clear r1 r2 hl1 hsm
  have HS := Aside0.mk ((Sep.start w []).alloc (g := w.heap.size) rfl (arrC a (.slice A1 a.mems.length c1) vd) 34)
  obtain ⟨id, gn, gs, mems, lost, built, seq, tail, gen, dirty, fuse, down, broken⟩ := a
  simp only [arrC] at *
  obtain ⟨k0, k1, k2, k3, k4, k5, k6, k7, k8, k9, k10, k11, k12⟩ := thirteen (HS.out.get 0 rfl)
  by_cases hA : arrB (⟨id, gn, gs, mems, lost, built, seq, tail, gen, dirty, fuse, down, broken⟩ : ArrV) = true
  · have HA := Aside0.mk hA
    have HP := Aside0.mk (arrB_P hA)
    have hgs : 1 ≤ gs ∧ gs ≤ 8 := by have := HP.out.geo; simp [geoB, inR] at this; omega
    have HG := Aside0.mk HP.out.geo
    have wgs : IntKind.i64.wrap (gs - 1) = gs - 1 := IntWalk.i64_in _ (by omega)
    clear hA hgs
    cases hbr : broken
    · subst hbr
      by_cases hin : inR s 0 (gs - 1) = true
      · have HIN := Aside0.mk hin
        clear hin
        have HY := Aside0.mk (wordsR_yes (show wordsB (⟨id, gn, gs, mems, lost, built, seq, tail, gen, dirty, fuse, down, false⟩ : ArrV) s = true by unfold wordsB; rw [HA.out]; simp only; rw [HIN.out]; rfl))
        rw [HY.out]
        go_enter Try.func24, Try.ntmps24
        go_upto_region 3 with (first
          | (go_at_call 17; refine (c_implArrOk (ArrR_below H.out HS.out.toBelow) HSM.out).mono ?_; rw [HA.out]; rintro e w1 ⟨rfl, hb⟩; have hs1 := HS.out.below hb; clear hb HS; have HS := Aside0.mk hs1; clear hs1 k0 k1 k2 k3 k4 k5 k6 k7 k8 k9 k10 k11 k12; obtain ⟨k0, k1, k2, k3, k4, k5, k6, k7, k8, k9, k10, k11, k12⟩ := thirteen (HS.out.get 0 rfl))
          | (go_at_call 68; refine (c_hasStripe _ _ _ _ HG.out).mono ?_; rw [HIN.out]; rintro e w2 ⟨rfl, hb⟩; have hs1 := HS.out.below hb; clear hb HS; have HS := Aside0.mk hs1; clear hs1 k0 k1 k2 k3 k4 k5 k6 k7 k8 k9 k10 k11 k12; obtain ⟨k0, k1, k2, k3, k4, k5, k6, k7, k8, k9, k10, k11, k12⟩ := thirteen (HS.out.get 0 rfl))
          | fail)
        have HI := Aside0.mk (HS.out.lit (g := w2.heap.size) rfl oInt 3)
        clear k0 k1 k2 k3 k4 k5 k6 k7 k8 k9 k10 k11 k12
        obtain ⟨k0, k1, k2, k3, k4, k5, k6, k7, k8, k9, k10, k11, k12⟩ := thirteen (HI.out.get 1 rfl)
        go_wp2
        go_loopw [6, 7, 29] (fun v6 v7 v8 wr => ∃ (i : Nat) (l : List Int) (ms : Int) (A : Option Addr) (c : Nat) (F : List Nat), i ≤ mems.length ∧ v8 = .int .i64 i ∧ v6 = .slice A i c ∧ v7 = .int .i64 ms ∧ Aside0 (l.length = i) ∧ (-1 ≤ ms ∧ ms < (i : Int)) ∧ Aside0 (wsV (⟨id, gn, gs, mems, lost, built, seq, tail, gen, dirty, fuse, down, false⟩ : ArrV) s i = some (l, ms)) ∧ Aside0 (Sep w [] wr [rw_ oInt 3 F (.slice A i c) l, bx w.heap.size 34 #[.int .i64 id, .int .i64 gn, .int .i64 gs, .slice A1 mems.length c1, .int .i64 lost, .int .i64 built, .int .i64 seq, .int .i64 tail, .int .i64 gen, vd, .int .i64 fuse, .bool down, .bool false]])) (fun _ _ v8 _ => mems.length - (intOf v8).toNat)
        case atStart => exact ⟨0, [], -1, _, _, _, by omega, rfl, rfl, rfl, ⟨rfl⟩, ⟨by omega, by omega⟩, ⟨rfl⟩, HI⟩
        case round =>
          clear HI k0 k1 k2 k3 k4 k5 k6 k7 k8 k9 k10 k11 k12
          obtain ⟨i, l, ms, A, c, F, hi, rfl, rfl, rfl, HL, hlo, HW, HR⟩ := hrel
          obtain ⟨k0, k1, k2, k3, k4, k5, k6, k7, k8, k9, k10, k11, k12⟩ := thirteen (HR.out.get 1 rfl)
          by_cases hlt : i < mems.length
          · have hig : (i : Int) < (mems.length : Int) := by omega
            obtain ⟨⟨pn, pok⟩, hp⟩ : ∃ p, wordV (⟨id, gn, gs, mems, lost, built, seq, tail, gen, dirty, fuse, down, false⟩ : ArrV) i s = p := ⟨_, rfl⟩
            have HP := Aside0.mk hp
            clear hp
            have HST : wsV (⟨id, gn, gs, mems, lost, built, seq, tail, gen, dirty, fuse, down, false⟩ : ArrV) s (i + 1) = (if pok then some (l ++ [pn], ms) else if 0 ≤ ms then none else some (l ++ [pn], (i : Int))) := by simp only [wsV, HW.out, HP.out]
            replace HST := Aside0.mk HST
            cases pok
            · by_cases hge : 0 ≤ ms
              · have hgeb : decide (0 ≤ ms) = true := decide_eq_true hge
                have HF := Aside0.mk (wsR_none (by rw [HST.out, if_neg (by decide), if_pos hge]) hlt)
                go_wp2_with (first
                  | (go_at_call 69; refine (c_implWordAt (ArrR_below H.out HR.out.toBelow) HSM.out hlt).mono ?_; rw [HP.out]; rintro e w2 ⟨rfl, hb⟩; have hs2 := HR.out.below hb; have HS2 := Aside0.mk hs2; clear hs2 hb k0 k1 k2 k3 k4 k5 k6 k7 k8 k9 k10 k11 k12; obtain ⟨k0, k1, k2, k3, k4, k5, k6, k7, k8, k9, k10, k11, k12⟩ := thirteen (HS2.out.get 1 rfl))
                  | fail)
                go_ret2
                rw [HF.out]
                first | exact ⟨_, _, rfl, (HS2.out.nil oInt 3).toNew 0 rfl⟩ | exact ⟨_, rfl, _, (HS2.out.nil oInt 3).toNew 0 rfl⟩
              · have hgeb : decide (0 ≤ ms) = false := decide_eq_false hge
                go_wp2_with (first
                  | (go_at_call 69; refine (c_implWordAt (ArrR_below H.out HR.out.toBelow) HSM.out hlt).mono ?_; rw [HP.out]; rintro e w2 ⟨rfl, hb⟩; have hs2 := HR.out.below hb; have HS2 := Aside0.mk hs2; clear hs2 hb k0 k1 k2 k3 k4 k5 k6 k7 k8 k9 k10 k11 k12; obtain ⟨k0, k1, k2, k3, k4, k5, k6, k7, k8, k9, k10, k11, k12⟩ := thirteen (HS2.out.get 1 rfl))
                  | (at_builtin; (refine app_one0 (d := oInt) (y := pn) HS2.out rfl _ _ 44 (.int .i64 0) 8 (by rfl) Try.underlying44 (by kernel_rfl) rfl (by decide) (by decide) [.int .i64 pn] (by first | exact ⟨rfl, rfl⟩ | rfl | simp [oInt, Od.int]) (by rfl) (by rfl) rfl (n := i) HL.out (by omega) ?_); intro A3 c3 w3 F3 hs3; have HS3 := Aside0.mk hs3; clear hs3)
                  | fail)
                go_roundw
                case rel => exact ⟨i + 1, l ++ [pn], i, A3, c3, F3, by omega, by go_num, rfl, rfl, ⟨by simp [HL.out]⟩, ⟨by omega, by omega⟩, ⟨by rw [HST.out]; rw [if_neg (by decide), if_neg (by omega)]⟩, HS3⟩
                case measure => simp [intOf]; omega
            · go_wp2_with (first
                | (go_at_call 69; refine (c_implWordAt (ArrR_below H.out HR.out.toBelow) HSM.out hlt).mono ?_; rw [HP.out]; rintro e w2 ⟨rfl, hb⟩; have hs2 := HR.out.below hb; have HS2 := Aside0.mk hs2; clear hs2 hb k0 k1 k2 k3 k4 k5 k6 k7 k8 k9 k10 k11 k12; obtain ⟨k0, k1, k2, k3, k4, k5, k6, k7, k8, k9, k10, k11, k12⟩ := thirteen (HS2.out.get 1 rfl))
                | (at_builtin; (refine app_one0 (d := oInt) (y := pn) HS2.out rfl _ _ 44 (.int .i64 0) 8 (by rfl) Try.underlying44 (by kernel_rfl) rfl (by decide) (by decide) [.int .i64 pn] (by first | exact ⟨rfl, rfl⟩ | rfl | simp [oInt, Od.int]) (by rfl) (by rfl) rfl (n := i) HL.out (by omega) ?_); intro A3 c3 w3 F3 hs3; have HS3 := Aside0.mk hs3; clear hs3)
                | fail)
              go_roundw
              case rel => exact ⟨i + 1, l ++ [pn], ms, A3, c3, F3, by omega, by go_num, rfl, rfl, ⟨by simp [HL.out]⟩, ⟨by omega, by omega⟩, ⟨by rw [HST.out]; rfl⟩, HS3⟩
              case measure => simp [intOf]; omega
          · obtain rfl : i = mems.length := by omega
            have HV := Aside0.mk (show wsR (⟨id, gn, gs, mems, lost, built, seq, tail, gen, dirty, fuse, down, false⟩ : ArrV) s = wsEnd (some (l, ms)) by unfold wsR; rw [HW.out])
            by_cases hge : 0 ≤ ms
            · obtain ⟨q, rfl⟩ : ∃ q : Nat, ms = (q : Int) := ⟨ms.toNat, by omega⟩
              have hq : q < l.length := by rw [HL.out]; omega
              obtain ⟨g, cap, hg9, _, _⟩ := O_form (show oInt.O 3 wr F (.slice A mems.length c) l from HR.out.get 0 rfl) (by omega)
              obtain rfl := (Value.slice.inj hg9).1
              clear hg9
              have HV2 := Aside0.mk (show wsR (⟨id, gn, gs, mems, lost, built, seq, tail, gen, dirty, fuse, down, false⟩ : ArrV) s = (l.set q (missV l (q : Int)), true) by rw [HV.out, wsEnd, if_pos (by omega), Int.toNat_natCast])
              have hgeb : decide ((0 : Int) ≤ (q : Int)) = true := decide_eq_true (by omega)
              have q0 : (0 : Int) ≤ (q : Int) := by omega
              have ql : (q : Int) < (mems.length : Int) := by omega
              have hll := HL.out
              have HLL := Aside0.mk hll
              have hl9 : l.length ≤ 16777216 := by rw [HLL.out]; exact HML.out
              clear hll hge
              go_wp2_with (first
                | (go_at_call 70; refine (c_implMissing (O_RK (show oInt.O 3 wr F _ l from HR.out.get 0 rfl)) (by omega)).mono ?_; rintro e w2 ⟨rfl, hb⟩; have hs2 := HR.out.dr hb; have HS2 := Aside0.mk hs2; clear hs2 hb; obtain ⟨u9, cc1, cc2⟩ := O_cells (d := oInt) (i := q) (t := 0) (HS2.out.get 0 rfl) hq (by decide); simp only [show oInt.sz = 1 from rfl, Nat.mul_one, Nat.add_zero] at cc1 cc2)
                | fail)
              go_ret2
              rw [HV2.out]
              first | exact ⟨_, _, rfl, (HS2.out.seti 0 rfl hq (missV l (q : Int))).toNew 0 rfl⟩ | exact ⟨_, rfl, _, (HS2.out.seti 0 rfl hq (missV l (q : Int))).toNew 0 rfl⟩
            · have hgeb : decide (0 ≤ ms) = false := decide_eq_false hge
              have HV2 := Aside0.mk (show wsR (⟨id, gn, gs, mems, lost, built, seq, tail, gen, dirty, fuse, down, false⟩ : ArrV) s = (l, true) by rw [HV.out, wsEnd, if_neg hge])
              go_wp2
              go_ret2
              rw [HV2.out]
              first | exact ⟨_, _, rfl, HR.out.toNew 0 rfl⟩ | exact ⟨_, rfl, _, HR.out.toNew 0 rfl⟩
      · simp only [Bool.not_eq_true] at hin
        have HIN := Aside0.mk hin
        clear hin
        have HN := Aside0.mk (wordsR_no (show wordsB (⟨id, gn, gs, mems, lost, built, seq, tail, gen, dirty, fuse, down, false⟩ : ArrV) s = false by unfold wordsB; rw [HA.out]; simp only; rw [HIN.out]; rfl))
        go_enter Try.func24, Try.ntmps24
        go_wp2_with (first
          | (go_at_call 17; refine (c_implArrOk (ArrR_below H.out HS.out.toBelow) HSM.out).mono ?_; rw [HA.out]; rintro e w1 ⟨rfl, hb⟩; have hs1 := HS.out.below hb; clear hb HS; have HS := Aside0.mk hs1; clear hs1 k0 k1 k2 k3 k4 k5 k6 k7 k8 k9 k10 k11 k12; obtain ⟨k0, k1, k2, k3, k4, k5, k6, k7, k8, k9, k10, k11, k12⟩ := thirteen (HS.out.get 0 rfl))
          | (go_at_call 68; refine (c_hasStripe _ _ _ _ HG.out).mono ?_; rw [HIN.out]; rintro e w2 ⟨rfl, hb⟩; have hs1 := HS.out.below hb; clear hb HS; have HS := Aside0.mk hs1; clear hs1 k0 k1 k2 k3 k4 k5 k6 k7 k8 k9 k10 k11 k12; obtain ⟨k0, k1, k2, k3, k4, k5, k6, k7, k8, k9, k10, k11, k12⟩ := thirteen (HS.out.get 0 rfl))
          | fail)
        go_ret2
        rw [HN.out]
        first | exact ⟨_, _, rfl, (HS.out.nil oInt 3).toNew 0 rfl⟩ | exact ⟨_, rfl, _, (HS.out.nil oInt 3).toNew 0 rfl⟩
    · subst hbr
      have HN := Aside0.mk (wordsR_no (show wordsB (⟨id, gn, gs, mems, lost, built, seq, tail, gen, dirty, fuse, down, true⟩ : ArrV) s = false by unfold wordsB; rw [HA.out]; rfl))
      go_enter Try.func24, Try.ntmps24
      go_wp2_with (first
        | (go_at_call 17; refine (c_implArrOk (ArrR_below H.out HS.out.toBelow) HSM.out).mono ?_; rw [HA.out]; rintro e w1 ⟨rfl, hb⟩; have hs1 := HS.out.below hb; clear hb HS; have HS := Aside0.mk hs1; clear hs1 k0 k1 k2 k3 k4 k5 k6 k7 k8 k9 k10 k11 k12; obtain ⟨k0, k1, k2, k3, k4, k5, k6, k7, k8, k9, k10, k11, k12⟩ := thirteen (HS.out.get 0 rfl))
        | fail)
      go_ret2
      rw [HN.out]
      first | exact ⟨_, _, rfl, (HS.out.nil oInt 3).toNew 0 rfl⟩ | exact ⟨_, rfl, _, (HS.out.nil oInt 3).toNew 0 rfl⟩
  · simp only [Bool.not_eq_true] at hA
    have HA := Aside0.mk hA
    clear hA
    have HN := Aside0.mk (wordsR_no (show wordsB (⟨id, gn, gs, mems, lost, built, seq, tail, gen, dirty, fuse, down, broken⟩ : ArrV) s = false by unfold wordsB; rw [HA.out]; rfl))
    go_enter Try.func24, Try.ntmps24
    go_wp2_with (first
      | (go_at_call 17; refine (c_implArrOk (ArrR_below H.out HS.out.toBelow) HSM.out).mono ?_; rw [HA.out]; rintro e w1 ⟨rfl, hb⟩; have hs1 := HS.out.below hb; clear hb HS; have HS := Aside0.mk hs1; clear hs1 k0 k1 k2 k3 k4 k5 k6 k7 k8 k9 k10 k11 k12; obtain ⟨k0, k1, k2, k3, k4, k5, k6, k7, k8, k9, k10, k11, k12⟩ := thirteen (HS.out.get 0 rfl))
      | fail)
    go_ret2
    rw [HN.out]
    first | exact ⟨_, _, rfl, (HS.out.nil oInt 3).toNew 0 rfl⟩ | exact ⟨_, rfl, _, (HS.out.nil oInt 3).toNew 0 rfl⟩
end Go.Proofs.Ytggmifnblcjdfaa.AWords
