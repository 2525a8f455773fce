/- The rows of a draw: l1Sec. -/
import Derived.Test.YtlmnmcfieagmbaaSepStep
import Derived.Test.YtlmnmcfieagmbaaMDraw
import Derived.Test.YtlmnmcfieagmbaaMSuper
import Derived.Deep.DrawnRows
import Derived.Laws.BitsLemmas
namespace Go.Proofs.Ytlmnmcfieagmbaa.MDraw2
open Go.RowKit Go.Proofs.Ytlmnmcfieagmbaa.RJ Go.Proofs.YtlmnmcfieagmbaaW.PrintWords Go.Proofs.Ytlmnmcfieagmbaa.Fp Go.Proofs.Ytlmnmcfieagmbaa.FpStep Go.Proofs.Ytlmnmcfieagmbaa.MInt Go.Proofs.Ytlmnmcfieagmbaa.MKinds Go.Proofs.Ytlmnmcfieagmbaa.MRead Go.Proofs.Ytlmnmcfieagmbaa.MMake Go.Proofs.Ytlmnmcfieagmbaa.MPut Go.Proofs.Ytlmnmcfieagmbaa.Sep Go.Proofs.Ytlmnmcfieagmbaa.SepStep Go.Proofs.Ytlmnmcfieagmbaa.MSuper Go.Proofs.Ytlmnmcfieagmbaa.MDraw
set_option linter.unusedVariables false
set_option linter.unusedSimpArgs false
attribute [local go_sem ↓] Go.wp_at_zero Go.wp_at_succ
set_option maxHeartbeats 4000000 in
theorem c_l1Sec {w0 w : World} {L : List Res} {g : Nat} {B : Value} {bs : List Int} {i h : Int} (hs : Sep w0 [] w (cur g B i h :: L)) (hB : RK (Kd.int .u8) w0 B bs) (hi : 0 ≤ i ∧ i ≤ bs.length) :
    Calls Try.prog 150 #[.pointer (some ⟨g, 0, none⟩)] w fun e w' => ∃ (A : Option Addr) (c : Nat) (F : List Nat) (xs : List Int) (i' h' : Int), e = .returned (.slice A xs.length c) ∧ (xs.length ≤ 4 ∧ ∀ x ∈ xs, 0 ≤ x ∧ x ≤ 65535) ∧ (0 ≤ i' ∧ i' ≤ bs.length) ∧ Sep w0 [] w' (rw_ oInt 3 F (.slice A xs.length c) xs :: cur g B i' h' :: L) := by
  have HS := Aside0.mk hs
  clear hs
  go_enter Try.func150, Try.ntmps150
  go_wp2_with (first
    | (go_at_call 129; have hl := (HS.out.lit (g := w.heap.size) rfl oInt 3).perm (List.Perm.swap _ _ _); refine (c_l1Below hl hB hi (by omega)).mono ?_; rintro e w1 ⟨x, i1, h1, rfl, hx0, hx1, hi1, hs1⟩; have hx2 := hx1 (by omega); have HS1 := Aside0.mk (hs1.perm (List.Perm.swap _ _ _)); clear hs1 hl hx1)
    | fail)
  go_loopw [3, 4] (fun v3 v4 wr => ∃ (A : Option Addr) (c : Nat) (F : List Nat) (xs : List Int) (k i' h' : Int), v3 = .slice A xs.length c ∧ v4 = .int .i64 k ∧ (0 ≤ k ∧ xs.length + k ≤ 4) ∧ Aside0 ((∀ x ∈ xs, 0 ≤ x ∧ x ≤ 65535) ∧ (0 ≤ i' ∧ i' ≤ bs.length) ∧ Sep w0 [] wr (rw_ oInt 3 F (.slice A xs.length c) xs :: cur g B i' h' :: L))) (fun _ v4 _ => (intOf v4).toNat)
  case atStart => exact ⟨_, _, _, [], x, i1, h1, rfl, rfl, ⟨hx0, by simp; omega⟩, ⟨by simp, hi1, HS1.out⟩⟩
  case round =>
    obtain ⟨A, c, F, xs, k, i', h', rfl, rfl, hk, hr⟩ := hrel
    by_cases h0 : 0 < k
    · go_wp2_with (first
        | (go_at_call 155; refine (c_l1Draw (hr.out.2.2.perm (List.Perm.swap _ _ _)) hB hr.out.2.1).mono ?_; rintro e w2 ⟨y, i2, h2, rfl, hy, hi2, hs2⟩; have HS2 := Aside0.mk (hs2.perm (List.Perm.swap _ _ _)); clear hs2)
        | (at_builtin; (refine app_one0 (d := oInt) (y := y) HS2.out rfl _ _ 24 (.int .i64 0) 8 (by rfl) Try.underlying24 (by kernel_rfl) rfl (by decide) (by decide) [.int .i64 y] (by first | exact ⟨rfl, rfl⟩ | rfl | simp [oInt, Od.int]) (by rfl) (by rfl) rfl (n := xs.length) rfl (by omega) ?_); intro A3 c3 w3 F3 hs3; have HS3 := Aside0.mk hs3; clear hs3)
        | fail)
      go_roundw
      case rel => exact ⟨A3, c3, F3, xs ++ [y], k - 1, i2, h2, by simp, by go_num, ⟨by omega, by simp; omega⟩, ⟨by intro z hz; rcases List.mem_append.1 hz with q | q; exact hr.out.1 z q; simp at q; omega, hi2, by rw [List.length_append]; exact HS3.out⟩⟩
      case measure => simp [intOf]; omega
    · go_wp2
      go_ret
      first | exact ⟨A, c, F, xs, rfl, ⟨by omega, hr.out.1⟩, i', hr.out.2.1, h', hr.out.2.2⟩ | exact ⟨A, c, F, xs, i', h', rfl, ⟨by omega, hr.out.1⟩, hr.out.2.1, hr.out.2.2⟩
set_option maxHeartbeats 4000000 in
theorem c_l1Any {w0 w : World} {L : List Res} {g : Nat} {B : Value} {bs : List Int} {i h : Int} (hs : Sep w0 [] w (cur g B i h :: L)) (hB : RK (Kd.int .u8) w0 B bs) (hi : 0 ≤ i ∧ i ≤ bs.length) :
    Calls Try.prog 122 #[.pointer (some ⟨g, 0, none⟩)] w fun e w' => ∃ (A : Option Addr) (c : Nat) (F : List Nat) (xs : List Int) (i' h' : Int), e = .returned (.slice A xs.length c) ∧ xs.length ≤ 13 ∧ (0 ≤ i' ∧ i' ≤ bs.length) ∧ Sep w0 [] w' (rw_ oInt 3 F (.slice A xs.length c) xs :: cur g B i' h' :: L) := by
  have HS := Aside0.mk hs
  clear hs
  go_enter Try.func122, Try.ntmps122
  go_upto_region 3 with (first
    | (go_at_call 129; refine (c_l1Below (HS1.out.perm (List.Perm.swap _ _ _)) hB hi1 (by omega)).mono ?_; rintro e w2 ⟨y, i2, h2, rfl, hy0, hy1, hi2, hs2⟩; have HS2 := Aside0.mk (hs2.perm (List.Perm.swap _ _ _)); clear hs2)
    | (go_at_call 150; refine (c_l1Sec HS.out hB hi).mono ?_; rintro e w1 ⟨A, c, F, xs, i1, h1, rfl, hx, hi1, hs1⟩; have HS1 := Aside0.mk hs1; clear hs1)
    | fail)
  have hl4 := hx.1
  by_cases y0 : y = 0
  · subst y0
    go_wp2_with (first
      | (go_at_call 119; have hn := new_lit HS2.out (g := w2.heap.size) rfl 3 (#[.int .i64 (-1), .int .i64 65536]) (l := [-1, 65536]) (n := 2) rfl rfl (by decide); have hn2 := hn.front 2 rfl; refine (c_l1Int hn2 hB hi2 (fun w' hw => O_RK (hw.get 0 rfl)) (by decide)).mono ?_; rintro e w3 ⟨x, i3, h3, rfl, hx3, hi3, hs3⟩; have hs4 := hs3.drop 1 rfl; have HS3 := Aside0.mk (hs4.perm (List.Perm.swap _ _ _)); clear hs3 hs4 hn hn2)
      | (at_builtin; refine app_one0 (d := oInt) (y := x) HS3.out rfl _ _ 24 (.int .i64 0) 8 (by rfl) Try.underlying24 (by kernel_rfl) rfl (by decide) (by decide) [.int .i64 x] (by first | exact ⟨rfl, rfl⟩ | rfl | simp [oInt, Od.int]) (by rfl) (by rfl) rfl (n := xs.length) rfl (by omega) ?_; intro A4 c4 w4 F4 hs4; have HS4 := Aside0.mk hs4; clear hs4)
      | fail)
    go_ret
    have hlen : (xs ++ [x]).length = xs.length + 1 := by simp
    first | exact ⟨A4, c4, F4, xs ++ [x], by rw [hlen]; rfl, by omega, i3, hi3, h3, by rw [hlen]; exact HS4.out⟩ | exact ⟨A4, c4, F4, xs ++ [x], i3, h3, by rw [hlen]; rfl, by omega, hi3, by rw [hlen]; exact HS4.out⟩
  · by_cases y1 : y = 1
    · subst y1
      go_wp2_with (first
        | (go_at_call 129; refine (c_l1Below (HS2.out.perm (List.Perm.swap _ _ _)) hB hi2 (by omega)).mono ?_; rintro e w3 ⟨x, i3, h3, rfl, hx0, hx1, hi3, hs3⟩; have hx2 := hx1 (by omega); obtain ⟨k, rfl⟩ := Int.eq_ofNat_of_zero_le hx0; have HS3 := Aside0.mk (hs3.drop 1 rfl); clear hs3 hx1)
        | (refine make_sep oInt HS3.out rfl rfl 24 3 _ _ (by rfl) (12 + k) (by simp; rfl) (by simp; rfl) Try.underlying24 (.int .i64 0) 8 (by kernel_rfl) rfl (by decide) (by decide) 0 (fun _ => ⟨rfl, rfl⟩) (by omega) ?_; intro w4 g4 hs4 hg4; have HS4 := Aside0.mk hs4; clear hs4 hg4)
        | fail)
      go_ret
      have hlen : (List.replicate (12 + k) (0 : Int)).length = 12 + k := by simp
      first | exact ⟨some ⟨g4, 0, none⟩, 12 + k, [g4], List.replicate (12 + k) 0, i3, h3, by rw [hlen]; rfl, by rw [hlen]; omega, hi3, by rw [hlen]; exact HS4.out⟩ | exact ⟨some ⟨g4, 0, none⟩, 12 + k, [g4], List.replicate (12 + k) 0, by rw [hlen]; rfl, by rw [hlen]; omega, i3, hi3, h3, by rw [hlen]; exact HS4.out⟩
    · go_wp2
      go_ret
      first | exact ⟨A, c, F, xs, rfl, by omega, i2, hi2, h2, HS2.out⟩ | exact ⟨A, c, F, xs, i2, h2, rfl, by omega, hi2, HS2.out⟩
end Go.Proofs.Ytlmnmcfieagmbaa.MDraw2
