/- The cursor of a draw: l1Byte, l1Below, l1Int. -/
import Derived.Test.YtlmnmcfieagmbaaSepStep
import Derived.Test.YtlmnmcfieagmbaaMSuper
import Derived.Deep.DrawnRows
import Derived.Laws.BitsLemmas
namespace Go.Proofs.Ytlmnmcfieagmbaa.MDraw
open Go.RowKit Go.Proofs.Ytlmnmcfieagmbaa.RJ Go.Proofs.YtlmnmcfieagmbaaW.PrintWords Go.Proofs.Ytlmnmcfieagmbaa.Fp Go.Proofs.Ytlmnmcfieagmbaa.FpStep Go.Proofs.Ytlmnmcfieagmbaa.MInt Go.Proofs.Ytlmnmcfieagmbaa.MKinds Go.Proofs.Ytlmnmcfieagmbaa.MRead Go.Proofs.Ytlmnmcfieagmbaa.MMake Go.Proofs.Ytlmnmcfieagmbaa.MPut Go.Proofs.Ytlmnmcfieagmbaa.Sep Go.Proofs.Ytlmnmcfieagmbaa.SepStep Go.Proofs.Ytlmnmcfieagmbaa.MSuper
set_option linter.unusedVariables false
set_option linter.unusedSimpArgs false
attribute [local go_sem ↓] Go.wp_at_zero Go.wp_at_succ
theorem three {w : World} {g : Nat} {a0 a1 a2 : Value} {t : TypeId} (h : w.heap[g]? = some (.cells #[a0, a1, a2] t (0, 0))) :
    w.cell? ⟨g, 0, none⟩ = some a0 ∧ w.cell? ⟨g, 1, none⟩ = some a1 ∧ w.cell? ⟨g, 2, none⟩ = some a2 := by
  refine ⟨?_, ?_, ?_⟩ <;> simp [World.cell?, h]
/-- the cursor g over the bytes B, n of them: at i. -/
abbrev cur (g : Nat) (B : Value) (i h : Int) : Res := bx g 127 #[B, .int .i64 i, .int .i64 h]
theorem band_eq (x m : Int) : Go.bits .and .i64 x m = IntKind.i64.wrap ((BitVec.ofInt 64 x &&& BitVec.ofInt 64 m).toNat : Int) := rfl
theorem band_le (x : Int) (m : Nat) (hm : m < 9223372036854775808) : 0 ≤ Go.bits .and .i64 x (m : Int) ∧ Go.bits .and .i64 x (m : Int) ≤ m := by
  rw [band_eq, IntKind.wrap_i64, BitVec.toNat_and]
  have h : (BitVec.ofInt 64 (m : Int)).toNat = m := by
    rw [BitVec.toNat_ofInt]; omega
  rw [h]
  have := Nat.and_le_right (n := (BitVec.ofInt 64 x).toNat) (m := m)
  omega
set_option maxHeartbeats 4000000 in
theorem c_l1Byte {w0 w : World} {L : List Res} {g : Nat} {B : Value} {bs : List Int} {i h : Int} (hs : Sep w0 [] w (cur g B i h :: L)) (hB : RK (Kd.int .u8) w0 B bs) (hi : 0 ≤ i ∧ i ≤ bs.length) :
    Calls Try.prog 154 #[.pointer (some ⟨g, 0, none⟩)] w fun e w' => ∃ (x i' h' : Int), e = .returned (.int .i64 x) ∧ 0 ≤ x ∧ x ≤ 255 ∧ (0 ≤ i' ∧ i' ≤ bs.length) ∧ Sep w0 [] w' (cur g B i' h' :: L) := by
  have lx := RK_len hB
  obtain ⟨hi0, hi1⟩ := hi
  obtain ⟨k, rfl⟩ := Int.eq_ofNat_of_zero_le hi0
  by_cases hk : k < bs.length
  · obtain ⟨ad, ca, rfl, hcell⟩ := ints_at hB (by omega)
    have hk1 : (k : Int) < (bs.length : Int) := by omega
    obtain ⟨x, hx⟩ : ∃ x, bs[k]? = some x := ⟨_, List.getElem?_eq_getElem hk⟩
    have K0 := Aside0.mk (hcell k x hx)
    clear hcell
    obtain ⟨k0, k1, k2⟩ := three (hs.get 0 rfl)
    have gz := blk_frozen (hs.get 0 rfl)
    have HS := Aside0.mk hs
    clear hs
    go_enter Try.func154, Try.ntmps154
    go_upto_region 2 with fail
    generalize wrap64 (wrap64 (h * 6364136223846793005) + 1442695040888963407) = h1 at *
    have hE := HS.out.setb 0 rfl 2 (.int .i64 h1) rfl
    simp only [List.map_cons, List.map_nil, pick, List.getD_cons_succ, List.getD_cons_zero, List.set_cons_zero, List.set_cons_succ, List.eraseIdx_cons_zero, List.eraseIdx_cons_succ, List.setIfInBounds_toArray] at hE
    generalize w.setCell ⟨g, 2, none⟩ (.int .i64 h1) = w1 at *
    have HE := Aside0.mk hE
    clear hE k0 k1 k2 gz HS
    obtain ⟨k0, k1, k2⟩ := three (HE.out.get 0 rfl)
    have gz := blk_frozen (HE.out.get 0 rfl)
    have kx := HE.out.old K0.out
    go_quiet (fail)
    go_upto_region 3 with fail
    go_quiet (fail)
    go_upto_region 4 with fail
    go_quiet (fail)
    go_wp2
    go_ret
    have hb := band_le (wrap64 (Go.bits .and .i64 (Go.bits .xor .i64 (h1 / 8589934592) (h1 / 140737488355328)) 255 + wrap64 x)) 255 (by omega)
    exact ⟨_, (k : Int) + 1, h1, rfl, hb.1, hb.2, ⟨by omega, by omega⟩, (HE.out.drewN _).setb 0 rfl 1 _ rfl⟩
  · obtain ⟨A, ca, rfl, _, _⟩ := id hB
    have hk1 : ¬ (k : Int) < (bs.length : Int) := by omega
    obtain ⟨k0, k1, k2⟩ := three (hs.get 0 rfl)
    have gz := blk_frozen (hs.get 0 rfl)
    have HS := Aside0.mk hs
    clear hs
    go_enter Try.func154, Try.ntmps154
    go_upto_region 2 with fail
    generalize wrap64 (wrap64 (h * 6364136223846793005) + 1442695040888963407) = h1 at *
    have hE := HS.out.setb 0 rfl 2 (.int .i64 h1) rfl
    simp only [List.map_cons, List.map_nil, pick, List.getD_cons_succ, List.getD_cons_zero, List.set_cons_zero, List.set_cons_succ, List.eraseIdx_cons_zero, List.eraseIdx_cons_succ, List.setIfInBounds_toArray] at hE
    generalize w.setCell ⟨g, 2, none⟩ (.int .i64 h1) = w1 at *
    have HE := Aside0.mk hE
    clear hE k0 k1 k2 gz HS
    obtain ⟨k0, k1, k2⟩ := three (HE.out.get 0 rfl)
    go_quiet (fail)
    go_upto_region 3 with fail
    go_quiet (fail)
    go_wp2
    go_ret
    have hb := band_le (Go.bits .xor .i64 (h1 / 8589934592) (h1 / 140737488355328)) 255 (by omega)
    first | exact ⟨_, rfl, hb.1, hb.2, k, ⟨by omega, by omega⟩, h1, HE.out.drewN _⟩ | exact ⟨_, k, h1, rfl, hb.1, hb.2, ⟨by omega, by omega⟩, HE.out.drewN _⟩
set_option maxHeartbeats 2000000 in
theorem c_l1Below {w0 w : World} {L : List Res} {g : Nat} {B : Value} {bs : List Int} {i h n : Int} (hs : Sep w0 [] w (cur g B i h :: L)) (hB : RK (Kd.int .u8) w0 B bs) (hi : 0 ≤ i ∧ i ≤ bs.length) (hn : n ≤ 256) :
    Calls Try.prog 129 #[.pointer (some ⟨g, 0, none⟩), .int .i64 n] w fun e w' => ∃ (x i' h' : Int), e = .returned (.int .i64 x) ∧ 0 ≤ x ∧ (0 < n → x < n) ∧ (0 ≤ i' ∧ i' ≤ bs.length) ∧ Sep w0 [] w' (cur g B i' h' :: L) := by
  have HS := Aside0.mk hs
  clear hs
  by_cases h0 : 0 < n
  · go_enter Try.func129, Try.ntmps129
    go_wp2_with (first
      | (go_at_call 154; refine (c_l1Byte HS.out hB hi).mono ?_; rintro e w1 ⟨x, i', h', rfl, hx0, hx1, hi2, hs1⟩; have HS1 := Aside0.mk hs1; clear hs1)
      | fail)
    go_ret
    exact ⟨_, i', h', rfl, Int.emod_nonneg _ (by omega), fun _ => Int.emod_lt_of_pos _ h0, hi2, HS1.out⟩
  · have h9 : n ≤ 0 := by omega
    go_enter Try.func129, Try.ntmps129
    go_wp2
    go_ret
    first | exact ⟨_, rfl, by omega, fun q => by omega, i, hi, h, HS.out⟩ | exact ⟨_, i, h, rfl, by omega, fun q => by omega, hi, HS.out⟩
set_option maxHeartbeats 2000000 in
theorem c_l1Int {w0 w : World} {L : List Res} {g : Nat} {B : Value} {bs : List Int} {i h : Int} {u : Value} {xs : List Int} (hs : Sep w0 [] w (cur g B i h :: L)) (hB : RK (Kd.int .u8) w0 B bs) (hi : 0 ≤ i ∧ i ≤ bs.length) (hu : ∀ w', Sep w0 [] w' L → RK kInt w' u xs) (hn : 0 < xs.length ∧ xs.length ≤ 256) :
    Calls Try.prog 119 #[.pointer (some ⟨g, 0, none⟩), u] w fun e w' => ∃ (x i' h' : Int), e = .returned (.int .i64 x) ∧ x ∈ xs ∧ (0 ≤ i' ∧ i' ≤ bs.length) ∧ Sep w0 [] w' (cur g B i' h' :: L) := by
  have HU := Aside0.mk hu
  obtain ⟨A, ca, rfl, _, _⟩ := hu w (hs.drop 0 rfl)
  have HS := Aside0.mk hs
  clear hs hu
  go_enter Try.func119, Try.ntmps119
  go_wp2_with (first
    | (go_at_call 129; (refine (c_l1Below HS.out hB hi (by omega)).mono ?_; rintro e w1 ⟨x, i', h', rfl, hx0, hx1, hi2, hs1⟩; have hx2 := hx1 (by omega); obtain ⟨k, rfl⟩ := Int.eq_ofNat_of_zero_le hx0; have hk : k < xs.length := (by omega); have HS1 := Aside0.mk hs1; have hs2 : Sep w0 [] w1 L := hs1.drop 0 rfl; have hru := HU.out w1 hs2; have hl0 : 0 < xs.length := Nat.lt_of_le_of_lt (Nat.zero_le k) hk; obtain ⟨ad, cc, ev, hcell⟩ := ints_at hru hl0; cases ev; obtain ⟨y, hy⟩ : ∃ y, xs[k]? = some y := ⟨_, List.getElem?_eq_getElem hk⟩; have ky := hcell k y hy; clear hs1 hcell))
    | fail)
  go_ret
  exact ⟨_, i', h', rfl, List.mem_of_getElem? hy, hi2, HS1.out⟩
set_option maxHeartbeats 2000000 in
theorem c_l1Draw {w0 w : World} {L : List Res} {g : Nat} {B : Value} {bs : List Int} {i h : Int} (hs : Sep w0 [] w (cur g B i h :: L)) (hB : RK (Kd.int .u8) w0 B bs) (hi : 0 ≤ i ∧ i ≤ bs.length) :
    Calls Try.prog 155 #[.pointer (some ⟨g, 0, none⟩)] w fun e w' => ∃ (x i' h' : Int), e = .returned (.int .i64 x) ∧ (0 ≤ x ∧ x ≤ 65535) ∧ (0 ≤ i' ∧ i' ≤ bs.length) ∧ Sep w0 [] w' (cur g B i' h' :: L) := by
  have HS := Aside0.mk hs
  clear hs
  go_enter Try.func155, Try.ntmps155
  go_wp2_with (first
    | (go_at_call 119; have hn := new_lit HS.out (g := w.heap.size) rfl 3 (#[.int .i64 0, .int .i64 1, .int .i64 2, .int .i64 7, .int .i64 255, .int .i64 256, .int .i64 4660, .int .i64 65535]) (l := [0, 1, 2, 7, 255, 256, 4660, 65535]) (n := 8) rfl rfl (by decide); have hn2 := hn.perm (List.Perm.swap _ _ _); refine (c_l1Int hn2 hB hi (fun w' hw => O_RK (hw.get 0 rfl)) (by decide)).mono ?_; rintro e w1 ⟨x, i', h', rfl, hx, hi2, hs1⟩; have HS1 := Aside0.mk (hs1.drop 1 rfl); have hx2 : 0 ≤ x ∧ x ≤ 65535 := (by simp at hx; omega); clear hs1 hn hn2 hx)
    | fail)
  go_ret
  exact ⟨x, i', h', rfl, hx2, hi2, HS1.out⟩
set_option maxHeartbeats 2000000 in
theorem c_l1New {w : World} {B : Value} {bs : List Int} (hB : RK (Kd.int .u8) w B bs) (hl : bs.length ≤ 16777216) :
    Calls Try.prog 114 #[B] w fun e w' => ∃ (g : Nat) (h' : Int), e = .returned (.pointer (some ⟨g, 0, none⟩)) ∧ Sep w [] w' [cur g B 0 h'] := by
  have lx := RK_len hB
  by_cases hn : 0 < bs.length
  · obtain ⟨ad, cap, rfl, hc⟩ := ints_at hB hn
    have Hc := Aside0.mk hc
    clear hB hc
    go_enter Try.func114, Try.ntmps114
    go_wp2
    go_loopw [3, 4] (fun v3 v4 wr => ∃ (i : Nat) (h : Int), i ≤ bs.length ∧ v3 = .int .i64 h ∧ v4 = .int .i64 i ∧ ∃ n, wr = w.drewN n) (fun _ v4 _ => bs.length - (intOf v4).toNat)
    case atStart => exact ⟨0, _, by omega, rfl, rfl, 0, rfl⟩
    case round =>
      obtain ⟨i, h, hi, rfl, rfl, n, rfl⟩ := hrel
      by_cases hlt : i < bs.length
      · obtain ⟨x, hxi⟩ : ∃ x, bs[i]? = some x := ⟨_, List.getElem?_eq_getElem hlt⟩
        have ca := Hc.out i x hxi
        have h1 : (i : Int) < (bs.length : Int) := by omega
        by_cases hq : (i : Int) < 4000
        · go_wp2
          go_roundw
          case rel => exact ⟨i + 1, _, by omega, rfl, by go_num, by first | exact ⟨_, rfl⟩ | exact ⟨_, World.drewN_drewN _ _ _⟩⟩
          case measure => simp [intOf]; omega
        · go_wp2
          go_ret
          first | exact ⟨_, rfl, h, ((Sep.start w []).drewN _).alloc rfl _ _⟩ | exact ⟨_, h, rfl, ((Sep.start w []).drewN _).alloc rfl _ _⟩
      · have h1 : ¬ (i : Int) < (bs.length : Int) := by omega
        go_wp2
        go_ret
        first | exact ⟨_, rfl, h, ((Sep.start w []).drewN _).alloc rfl _ _⟩ | exact ⟨_, h, rfl, ((Sep.start w []).drewN _).alloc rfl _ _⟩
  · have h2 : bs = [] := List.eq_nil_of_length_eq_zero (by omega)
    subst h2
    obtain ⟨A, ca, rfl, _, _⟩ := hB
    go_enter Try.func114, Try.ntmps114
    go_wp2
    refine wp_loop_rounds 1 ?_
    rw [rounds_succ]
    go_wp2
    go_ret
    first | exact ⟨_, rfl, _, ((Sep.start w []).alloc rfl _ _)⟩ | exact ⟨_, _, rfl, ((Sep.start w []).alloc rfl _ _)⟩
end Go.Proofs.Ytlmnmcfieagmbaa.MDraw
