/- The walk of the law FnGeos: with what its calls come to laid ahead, it returns true and turns nothing that was there. -/
import Derived.Test.YtmhhehklcfkapabQFnGeosx2
namespace Go.Proofs.Ytmhhehklcfkapab.WalkFnGeos
open Go.RowKit Go.Proofs.Ytmhhehklcfkapab.PFnGeos Go.Proofs.YtmhhehklcfkapabW.PrintWords Go.Proofs.YtmhhehklcfkapabW.PrintLast Go.Proofs.YtmhhehklcfkapabW.PrintMore
set_option linter.unusedVariables false
theorem two {w : World} {g : Nat} {a b : Value} {t : TypeId} (h : w.heap[g]? = some (.cells #[a, b] t (0, 0))) : w.cell? ⟨g, 0, none⟩ = some a ∧ w.cell? ⟨g, 1, none⟩ = some b := ⟨(blk_cell h 0).trans rfl, (blk_cell h 1).trans rfl⟩
def diskP (n p j : Int) : Int := (p + 1 + j) % n
def seenP (n p : Int) : Nat → Int
  | 0 => wrap64 (2 ^ p.toNat)
  | j + 1 => Go.bits .or .i64 (seenP n p j) (wrap64 (2 ^ (diskP n p j).toNat))
set_option maxHeartbeats 4000000 in
theorem walk (k : Nat) (A0 : Option Addr) (c0 : Nat) (l0 : List Int) (w : World) (hr0 : Kd.C (Kd.int .u8) w A0 l0.length l0) (hc0 : l0.length ≤ c0)
    (hbig : laws_big.f l0 = some false) (n s st i : Int) (hd : spec_DrawGeo.f k l0 = some (n, s, st, i)) (b p : Int) (hba : impl_BlockAt.f n s st i = some b) (hp : impl_ParityOf.f n s st = some p)
    (n3 : 3 ≤ n) (n5 : n ≤ 5) (p0 : 0 ≤ p) (p1 : p < n) (hdisk : ∀ j : Nat, (j : Int) < n - 1 → impl_DiskOf.f n s st j = some (diskP n p j))
    (hbits : ∀ j : Nat, (j : Int) < n - 1 → 0 ≤ diskP n p j ∧ diskP n p j < n ∧ (Go.bits BinOp.and IntKind.i64 (seenP n p j / 2 ^ (diskP n p ↑j).toNat) 1 == 1) = false)
    (bl q : Int) (hbl : impl_Blocks.f n s = some bl) (hso : impl_StripeOf.f n s b = some st) (hio : impl_IndexOf.f n s b = some i) (hq : impl_ParityOf.f n s (st + 1) = some q) (hgo : impl_GeoOk.f n s = some true)
    (b0 : 0 ≤ b) (b1 : b < bl) (s0 : 0 ≤ st) (s1 : st < s) (s8 : s ≤ 8) (hseen : ∀ j : Nat, n = (j : Int) + 1 → seenP n p j = wrap64 (wrap64 (2 ^ (j + 1)) - 1))
    (hqa : st + 1 = s → q = -1) (hqb : ¬ st + 1 = s → q = (p + n - 1) % n ∧ 0 ≤ q) :
    Calls Try.prog 7 #[.slice A0 l0.length c0] w fun e w' => e = .returned (.bool true) ∧ Below w.heap.size w w' := by
  have Hr := Aside0.mk hr0
  have Hc := Aside0.mk hc0
  have Hbig := Aside0.mk hbig
  have Hd := Aside0.mk hd
  have Hba := Aside0.mk hba
  have Hp := Aside0.mk hp
  have Hdisk := Aside0.mk hdisk
  have Hbits := Aside0.mk hbits
  have Hbl := Aside0.mk hbl
  have Hso := Aside0.mk hso
  have Hio := Aside0.mk hio
  have Hq := Aside0.mk hq
  have Hgo := Aside0.mk hgo
  have Hseen := Aside0.mk hseen
  clear hr0 hc0 hbig hd hba hp hdisk hbits hbl hso hio hq hgo hseen
  go_enter Try.func7, Try.ntmps7
  go_wp2_with (first
    | (go_at_call 36; (with_reducible refine (laws_big.calls A0 c0 l0 false _ Hr.out Hc.out Hbig.out).mono ?_); rintro e w1 ⟨rfl, ⟨nd, rfl⟩⟩)
    | (go_at_call 37; refine (spec_DrawGeo.calls k A0 c0 l0 n s st i _ (Kd.C_below Hr.out (pw_below_drewN (Below.refl _ _) _)) Hc.out Hd.out).mono ?_; rintro e w2 ⟨rfl, hb⟩; have HB := Aside0.mk ((pw_below_drewN (Below.refl w.heap.size w) _).trans hb); clear hb)
    | (go_at_call 38; refine (impl_BlockAt.calls n s st i b _ Hba.out).mono ?_; rintro e w3 ⟨rfl, hb⟩; have HG := Aside0.mk (blk_below (blk_new w2 _) hb); have HB3 := Aside0.mk ((HB.out.alloc HB.out.size _).trans (hb.mono (Nat.le_trans HB.out.size (by simp)))); clear hb HB; obtain ⟨g0, g1⟩ := two HG.out; obtain ⟨g, hg⟩ : ∃ g, g = w2.heap.size := ⟨_, rfl⟩; rw [← hg] at HG g0 g1 ⊢; clear hg)
    | (go_at_call 39; refine (impl_ParityOf.calls n s st p _ Hp.out).mono ?_; rintro e w4 ⟨rfl, hb⟩; have HG4 := Aside0.mk (blk_below HG.out hb); have HB4 := Aside0.mk (HB3.out.trans (hb.mono HB3.out.size)); clear hb g0 g1 HG HB3; obtain ⟨g40, g41⟩ := two HG4.out)
    | fail)
  go_loopw [8, 9] (fun v8 v9 wr => ∃ j : Nat, (j : Int) ≤ n - 1 ∧ v9 = .int .i64 j ∧ v8 = .int .i64 (seenP n p j) ∧ Aside0 (wr.heap[g]? = some (.cells #[.int .i64 n, .int .i64 s] 52 (0, 0))) ∧ Aside0 (Below w.heap.size w wr)) (fun _ v9 _ => 9 - (intOf v9).toNat)
  case atStart => exact ⟨0, by omega, rfl, rfl, HG4, HB4⟩
  case round =>
    obtain ⟨j, hj, rfl, rfl, HG, HB⟩ := hrel
    obtain ⟨g0, g1⟩ := two HG.out
    by_cases hlt : (j : Int) < n - 1
    · have Hdj := Aside0.mk (Hdisk.out j hlt)
      obtain ⟨hd0, hd1, hbit⟩ := Hbits.out j hlt
      go_wp2_with (first
        | (go_at_call 40; refine (impl_DiskOf.calls n s st j _ _ Hdj.out).mono ?_; rintro e w5 ⟨rfl, hb⟩; have HG5 := Aside0.mk (blk_below HG.out hb); have HB5 := Aside0.mk (HB.out.trans (hb.mono HB.out.size)); clear hb g0 g1 HG HB; obtain ⟨g0, g1⟩ := two HG5.out)
        | fail)
      go_roundw
      case rel => exact ⟨j + 1, by omega, by go_num, rfl, HG5, HB5⟩
      case measure => simp [intOf]; omega
    · obtain rfl : n = (j : Int) + 1 := by omega
      have hseen := Hseen.out j rfl
      have hj0 : ((j : Int) + 1 == 0) = false := by simp; omega
      by_cases hs : st + 1 = s
      · subst hs
        obtain rfl : q = -1 := hqa rfl
        clear hqa hqb
        go_wp2_with (first
          | (go_at_call 39; refine (impl_ParityOf.calls _ _ _ _ _ Hq.out).mono ?_; rintro e w6 ⟨rfl, hb⟩; have HG6 := Aside0.mk (blk_below HG.out hb); have HB6 := Aside0.mk (HB.out.trans (hb.mono HB.out.size)); clear hb g0 g1 HG HB; obtain ⟨g0, g1⟩ := two HG6.out)
          | (go_at_call 41; refine (impl_StripeOf.calls _ _ b st _ Hso.out).mono ?_; rintro e w7 ⟨rfl, hb⟩; have HG7 := Aside0.mk (blk_below HG6.out hb); have HB7 := Aside0.mk (HB6.out.trans (hb.mono HB6.out.size)); clear hb g0 g1 HG6 HB6; obtain ⟨g0, g1⟩ := two HG7.out)
          | (go_at_call 42; refine (impl_IndexOf.calls _ _ b i _ Hio.out).mono ?_; rintro e w8 ⟨rfl, hb⟩; have HG8 := Aside0.mk (blk_below HG7.out hb); have HB8 := Aside0.mk (HB7.out.trans (hb.mono HB7.out.size)); clear hb g0 g1 HG7 HB7; obtain ⟨g0, g1⟩ := two HG8.out)
          | (go_at_call 43; refine (impl_Blocks.calls _ _ bl _ Hbl.out).mono ?_; rintro e w9 ⟨rfl, hb⟩; have HG9 := Aside0.mk (blk_below HG8.out hb); have HB9 := Aside0.mk (HB8.out.trans (hb.mono HB8.out.size)); clear hb g0 g1 HG8 HB8; obtain ⟨g0, g1⟩ := two HG9.out)
          | (go_at_call 44; refine (impl_GeoOk.calls _ _ true _ Hgo.out).mono ?_; rintro e w10 ⟨rfl, hb⟩; have HB10 := Aside0.mk (HB9.out.trans (hb.mono HB9.out.size)); clear hb g0 g1)
          | fail)
        go_ret
        exact ⟨rfl, HB10.out⟩
      · have hq2 := hqb hs
        have hq1 : (q == -1) = false := by rw [beq_eq_false_iff_ne]; omega
        have hs1 : (st + 1 == s) = false := by rw [beq_eq_false_iff_ne]; exact hs
        have hq4 : (q == (p + ((j : Int) + 1) - 1) % ((j : Int) + 1)) = true := by rw [beq_iff_eq]; exact hq2.1
        clear hqa hqb hq2 hs
        go_wp2_with (first
          | (go_at_call 39; refine (impl_ParityOf.calls _ _ _ _ _ Hq.out).mono ?_; rintro e w6 ⟨rfl, hb⟩; have HG6 := Aside0.mk (blk_below HG.out hb); have HB6 := Aside0.mk (HB.out.trans (hb.mono HB.out.size)); clear hb g0 g1 HG HB; obtain ⟨g0, g1⟩ := two HG6.out)
          | (go_at_call 41; refine (impl_StripeOf.calls _ _ b st _ Hso.out).mono ?_; rintro e w7 ⟨rfl, hb⟩; have HG7 := Aside0.mk (blk_below HG6.out hb); have HB7 := Aside0.mk (HB6.out.trans (hb.mono HB6.out.size)); clear hb g0 g1 HG6 HB6; obtain ⟨g0, g1⟩ := two HG7.out)
          | (go_at_call 42; refine (impl_IndexOf.calls _ _ b i _ Hio.out).mono ?_; rintro e w8 ⟨rfl, hb⟩; have HG8 := Aside0.mk (blk_below HG7.out hb); have HB8 := Aside0.mk (HB7.out.trans (hb.mono HB7.out.size)); clear hb g0 g1 HG7 HB7; obtain ⟨g0, g1⟩ := two HG8.out)
          | (go_at_call 43; refine (impl_Blocks.calls _ _ bl _ Hbl.out).mono ?_; rintro e w9 ⟨rfl, hb⟩; have HG9 := Aside0.mk (blk_below HG8.out hb); have HB9 := Aside0.mk (HB8.out.trans (hb.mono HB8.out.size)); clear hb g0 g1 HG8 HB8; obtain ⟨g0, g1⟩ := two HG9.out)
          | (go_at_call 44; refine (impl_GeoOk.calls _ _ true _ Hgo.out).mono ?_; rintro e w10 ⟨rfl, hb⟩; have HB10 := Aside0.mk (HB9.out.trans (hb.mono HB9.out.size)); clear hb g0 g1)
          | fail)
        go_ret
        exact ⟨rfl, HB10.out⟩
theorem walk_big (A0 : Option Addr) (c0 : Nat) (l0 : List Int) (w : World) (hr0 : Kd.C (Kd.int .u8) w A0 l0.length l0) (hc0 : l0.length ≤ c0) (hbig : laws_big.f l0 = some true) :
    Calls Try.prog 7 #[.slice A0 l0.length c0] w fun e w' => e = .returned (.bool true) ∧ Below w.heap.size w w' := by
  have Hr := Aside0.mk hr0
  have Hc := Aside0.mk hc0
  have Hbig := Aside0.mk hbig
  clear hr0 hc0 hbig
  go_enter Try.func7, Try.ntmps7
  go_wp2_with (first | (go_at_call 36; (with_reducible refine (laws_big.calls A0 c0 l0 true _ Hr.out Hc.out Hbig.out).mono ?_); rintro e w1 ⟨rfl, ⟨nd, rfl⟩⟩) | fail)
  go_ret
  exact ⟨rfl, pw_below_drewN (Below.refl _ _) _⟩
end Go.Proofs.Ytmhhehklcfkapab.WalkFnGeos
