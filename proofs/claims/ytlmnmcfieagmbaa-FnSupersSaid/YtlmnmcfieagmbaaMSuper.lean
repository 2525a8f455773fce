/- What a disk knows: SuperOk, PutSuper, GetSuper, of both. -/
import Derived.Test.YtlmnmcfieagmbaaSepMore
import Derived.Test.YtlmnmcfieagmbaaMVal
import Derived.Test.YtlmnmcfieagmbaaMReadS
import Derived.Deep.RegionHeld3
namespace Go.Proofs.Ytlmnmcfieagmbaa.MSuper
open Go.RowKit Go.Proofs.Ytlmnmcfieagmbaa.RJ Go.Proofs.YtlmnmcfieagmbaaW.PrintWords Go.Proofs.Ytlmnmcfieagmbaa.Fp Go.Proofs.Ytlmnmcfieagmbaa.FpStep Go.Proofs.Ytlmnmcfieagmbaa.MInt Go.Proofs.Ytlmnmcfieagmbaa.MKinds Go.Proofs.Ytlmnmcfieagmbaa.MRead Go.Proofs.Ytlmnmcfieagmbaa.MMake Go.Proofs.Ytlmnmcfieagmbaa.MPut Go.Proofs.Ytlmnmcfieagmbaa.MVal Go.Proofs.Ytlmnmcfieagmbaa.Sep Go.Proofs.Ytlmnmcfieagmbaa.SepStep Go.Proofs.Ytlmnmcfieagmbaa.MReadS
set_option linter.unusedVariables false
set_option linter.unusedSimpArgs false
attribute [local go_sem ↓] Go.wp_at_zero Go.wp_at_succ
structure SupV where
  id : Int
  gen : Int
  role : Int
  n : Int
  st : Int
  tail : Int
  lost : Int
  built : Int
  deriving DecidableEq
def supA (s : SupV) : Array Value := #[.int .i64 s.id, .int .i64 s.gen, .int .i64 s.role, .int .i64 s.n, .int .i64 s.st, .int .i64 s.tail, .int .i64 s.lost, .int .i64 s.built]
def sup0 : SupV := ⟨0, 0, 0, 0, 0, 0, 0, 0⟩
def geoB (n s : Int) : Bool := inR n 3 5 && inR s 1 8
def lostB (n s lost built : Int) : Bool := inR lost (-1) (n - 1) && (inR built 0 s && (built == 0 || lost != -1))
def supB (s : SupV) : Bool := inR s.id 1 60000 && (inR s.gen 0 60000 && (inR s.tail 0 60000 && (geoB s.n s.st && (inR s.role 0 (s.n - 1) && lostB s.n s.st s.lost s.built))))
def supL (s : SupV) : List Int := [21317, s.id, s.gen, s.role, s.n, s.st, s.tail, s.lost + 1, s.built]
def putSup (s : SupV) : List Int := if supB s then supL s else []
theorem geoB_true {n s : Int} (h : geoB n s = true) : 3 ≤ n ∧ n ≤ 5 ∧ 1 ≤ s ∧ s ≤ 8 := by simp [geoB, inR] at h; omega
theorem eight {w : World} {g : Nat} {a0 a1 a2 a3 a4 a5 a6 a7 : Value} {t : TypeId} (h : w.heap[g]? = some (.cells #[a0, a1, a2, a3, a4, a5, a6, a7] t (0, 0))) :
    w.cell? ⟨g, 0, none⟩ = some a0 ∧ w.cell? ⟨g, 1, none⟩ = some a1 ∧ w.cell? ⟨g, 2, none⟩ = some a2 ∧ w.cell? ⟨g, 3, none⟩ = some a3 ∧ w.cell? ⟨g, 4, none⟩ = some a4 ∧ w.cell? ⟨g, 5, none⟩ = some a5 ∧ w.cell? ⟨g, 6, none⟩ = some a6 ∧ w.cell? ⟨g, 7, none⟩ = some a7 :=
  ⟨(blk_cell h 0).trans rfl, (blk_cell h 1).trans rfl, (blk_cell h 2).trans rfl, (blk_cell h 3).trans rfl, (blk_cell h 4).trans rfl, (blk_cell h 5).trans rfl, (blk_cell h 6).trans rfl, (blk_cell h 7).trans rfl⟩
set_option maxHeartbeats 1000000 in
theorem c_implGeoOk (n st : Int) (w : World) :
    Calls Try.prog 76 #[.agg #[.int .i64 n, .int .i64 st]] w fun e w' => e = .returned (.bool (geoB n st)) ∧ Below w.heap.size w w' := by
  by_cases h1 : inR n 3 5 = true
  · skip
    by_cases h2 : inR st 1 8 = true
    · skip
      go_enter Try.func76, Try.ntmps76
      go_wp2_with (first
        | (go_at_call 120; refine (c_within _ _ _ _).mono ?_; rintro e wN ⟨rfl, hb⟩; replace HS := Aside0.mk (HS.out.dr hb); clear hb; obtain ⟨k1, k2⟩ := two (HS.out.get 0 rfl))
        | (go_at_call 120; refine (c_within _ _ _ _).mono ?_; rintro e wN ⟨rfl, hb⟩; have HS := Aside0.mk (((Sep.start w []).alloc (g := w.heap.size) rfl #[.int .i64 n, .int .i64 st] 78).dr hb); clear hb; obtain ⟨k1, k2⟩ := two (HS.out.get 0 rfl))
        | fail)
      go_ret
      exact ⟨ret_bool (by simp [geoB, h1, h2]), HS.out.toBelow⟩
    · simp only [Bool.not_eq_true] at h2
      go_enter Try.func76, Try.ntmps76
      go_wp2_with (first
        | (go_at_call 120; refine (c_within _ _ _ _).mono ?_; rintro e wN ⟨rfl, hb⟩; replace HS := Aside0.mk (HS.out.dr hb); clear hb; obtain ⟨k1, k2⟩ := two (HS.out.get 0 rfl))
        | (go_at_call 120; refine (c_within _ _ _ _).mono ?_; rintro e wN ⟨rfl, hb⟩; have HS := Aside0.mk (((Sep.start w []).alloc (g := w.heap.size) rfl #[.int .i64 n, .int .i64 st] 78).dr hb); clear hb; obtain ⟨k1, k2⟩ := two (HS.out.get 0 rfl))
        | fail)
      go_ret
      exact ⟨ret_bool (by simp [geoB, h1, h2]), HS.out.toBelow⟩
  · simp only [Bool.not_eq_true] at h1
    go_enter Try.func76, Try.ntmps76
    go_wp2_with (first
      | (go_at_call 120; refine (c_within _ _ _ _).mono ?_; rintro e wN ⟨rfl, hb⟩; replace HS := Aside0.mk (HS.out.dr hb); clear hb; obtain ⟨k1, k2⟩ := two (HS.out.get 0 rfl))
      | (go_at_call 120; refine (c_within _ _ _ _).mono ?_; rintro e wN ⟨rfl, hb⟩; have HS := Aside0.mk (((Sep.start w []).alloc (g := w.heap.size) rfl #[.int .i64 n, .int .i64 st] 78).dr hb); clear hb; obtain ⟨k1, k2⟩ := two (HS.out.get 0 rfl))
      | fail)
    go_ret
    exact ⟨ret_bool (by simp [geoB, h1]), HS.out.toBelow⟩
set_option maxHeartbeats 1000000 in
theorem c_specGeoOk (n st : Int) (w : World) :
    Calls Try.prog 77 #[.agg #[.int .i64 n, .int .i64 st]] w fun e w' => e = .returned (.bool (geoB n st)) ∧ Below w.heap.size w w' := by
  by_cases h1 : inR n 3 5 = true
  · skip
    by_cases h2 : inR st 1 8 = true
    · skip
      go_enter Try.func77, Try.ntmps77
      go_wp2_with (first
        | (go_at_call 96; refine (c_l1In _ _ _ _).mono ?_; rintro e wN ⟨rfl, hb⟩; replace HS := Aside0.mk (HS.out.dr hb); clear hb; obtain ⟨k1, k2⟩ := two (HS.out.get 0 rfl))
        | (go_at_call 96; refine (c_l1In _ _ _ _).mono ?_; rintro e wN ⟨rfl, hb⟩; have HS := Aside0.mk (((Sep.start w []).alloc (g := w.heap.size) rfl #[.int .i64 n, .int .i64 st] 78).dr hb); clear hb; obtain ⟨k1, k2⟩ := two (HS.out.get 0 rfl))
        | fail)
      go_ret
      exact ⟨ret_bool (by simp [geoB, h1, h2]), HS.out.toBelow⟩
    · simp only [Bool.not_eq_true] at h2
      go_enter Try.func77, Try.ntmps77
      go_wp2_with (first
        | (go_at_call 96; refine (c_l1In _ _ _ _).mono ?_; rintro e wN ⟨rfl, hb⟩; replace HS := Aside0.mk (HS.out.dr hb); clear hb; obtain ⟨k1, k2⟩ := two (HS.out.get 0 rfl))
        | (go_at_call 96; refine (c_l1In _ _ _ _).mono ?_; rintro e wN ⟨rfl, hb⟩; have HS := Aside0.mk (((Sep.start w []).alloc (g := w.heap.size) rfl #[.int .i64 n, .int .i64 st] 78).dr hb); clear hb; obtain ⟨k1, k2⟩ := two (HS.out.get 0 rfl))
        | fail)
      go_ret
      exact ⟨ret_bool (by simp [geoB, h1, h2]), HS.out.toBelow⟩
  · simp only [Bool.not_eq_true] at h1
    go_enter Try.func77, Try.ntmps77
    go_wp2_with (first
      | (go_at_call 96; refine (c_l1In _ _ _ _).mono ?_; rintro e wN ⟨rfl, hb⟩; replace HS := Aside0.mk (HS.out.dr hb); clear hb; obtain ⟨k1, k2⟩ := two (HS.out.get 0 rfl))
      | (go_at_call 96; refine (c_l1In _ _ _ _).mono ?_; rintro e wN ⟨rfl, hb⟩; have HS := Aside0.mk (((Sep.start w []).alloc (g := w.heap.size) rfl #[.int .i64 n, .int .i64 st] 78).dr hb); clear hb; obtain ⟨k1, k2⟩ := two (HS.out.get 0 rfl))
      | fail)
    go_ret
    exact ⟨ret_bool (by simp [geoB, h1]), HS.out.toBelow⟩
set_option maxHeartbeats 1000000 in
theorem c_lostOk {n : Int} (st lost built : Int) (w : World) (hn : 3 ≤ n ∧ n ≤ 5) :
    Calls Try.prog 131 #[.agg #[.int .i64 n, .int .i64 st], .int .i64 lost, .int .i64 built] w fun e w' => e = .returned (.bool (lostB n st lost built)) ∧ Below w.heap.size w w' := by
  obtain ⟨hn1, hn2⟩ := hn
  by_cases h1 : inR lost (-1) (n - 1) = true
  · skip
    by_cases h2 : inR built 0 st = true
    · skip
      by_cases h3 : (built == 0) = true
      · skip
        go_enter Try.func131, Try.ntmps131
        go_wp2_with (first
          | (go_at_call 120; refine (c_within _ _ _ _).mono ?_; rintro e wN ⟨rfl, hb⟩; replace HS := Aside0.mk (HS.out.dr hb); clear hb; obtain ⟨k1, k2⟩ := two (HS.out.get 0 rfl))
          | (go_at_call 120; refine (c_within _ _ _ _).mono ?_; rintro e wN ⟨rfl, hb⟩; have HS := Aside0.mk (((Sep.start w []).alloc (g := w.heap.size) rfl #[.int .i64 n, .int .i64 st] 78).dr hb); clear hb; obtain ⟨k1, k2⟩ := two (HS.out.get 0 rfl))
          | fail)
        go_ret
        exact ⟨ret_bool (by simp [lostB, h1, h2, h3]), HS.out.toBelow⟩
      · simp only [Bool.not_eq_true] at h3
        go_enter Try.func131, Try.ntmps131
        go_wp2_with (first
          | (go_at_call 120; refine (c_within _ _ _ _).mono ?_; rintro e wN ⟨rfl, hb⟩; replace HS := Aside0.mk (HS.out.dr hb); clear hb; obtain ⟨k1, k2⟩ := two (HS.out.get 0 rfl))
          | (go_at_call 120; refine (c_within _ _ _ _).mono ?_; rintro e wN ⟨rfl, hb⟩; have HS := Aside0.mk (((Sep.start w []).alloc (g := w.heap.size) rfl #[.int .i64 n, .int .i64 st] 78).dr hb); clear hb; obtain ⟨k1, k2⟩ := two (HS.out.get 0 rfl))
          | fail)
        go_ret
        exact ⟨ret_bool (by simp [lostB, h1, h2, h3]), HS.out.toBelow⟩
    · simp only [Bool.not_eq_true] at h2
      go_enter Try.func131, Try.ntmps131
      go_wp2_with (first
        | (go_at_call 120; refine (c_within _ _ _ _).mono ?_; rintro e wN ⟨rfl, hb⟩; replace HS := Aside0.mk (HS.out.dr hb); clear hb; obtain ⟨k1, k2⟩ := two (HS.out.get 0 rfl))
        | (go_at_call 120; refine (c_within _ _ _ _).mono ?_; rintro e wN ⟨rfl, hb⟩; have HS := Aside0.mk (((Sep.start w []).alloc (g := w.heap.size) rfl #[.int .i64 n, .int .i64 st] 78).dr hb); clear hb; obtain ⟨k1, k2⟩ := two (HS.out.get 0 rfl))
        | fail)
      go_ret
      exact ⟨ret_bool (by simp [lostB, h1, h2]), HS.out.toBelow⟩
  · simp only [Bool.not_eq_true] at h1
    go_enter Try.func131, Try.ntmps131
    go_wp2_with (first
      | (go_at_call 120; refine (c_within _ _ _ _).mono ?_; rintro e wN ⟨rfl, hb⟩; replace HS := Aside0.mk (HS.out.dr hb); clear hb; obtain ⟨k1, k2⟩ := two (HS.out.get 0 rfl))
      | (go_at_call 120; refine (c_within _ _ _ _).mono ?_; rintro e wN ⟨rfl, hb⟩; have HS := Aside0.mk (((Sep.start w []).alloc (g := w.heap.size) rfl #[.int .i64 n, .int .i64 st] 78).dr hb); clear hb; obtain ⟨k1, k2⟩ := two (HS.out.get 0 rfl))
      | fail)
    go_ret
    exact ⟨ret_bool (by simp [lostB, h1]), HS.out.toBelow⟩
set_option maxHeartbeats 2000000 in
theorem c_implSuperOk (id gen role n st tail lost built : Int) (w : World) :
    Calls Try.prog 49 #[.agg #[.int .i64 id, .int .i64 gen, .int .i64 role, .int .i64 n, .int .i64 st, .int .i64 tail, .int .i64 lost, .int .i64 built]] w fun e w' => e = .returned (.bool (supB ⟨id, gen, role, n, st, tail, lost, built⟩)) ∧ Below w.heap.size w w' := by
  by_cases h1 : inR id 1 60000 = true
  · skip
    by_cases h2 : inR gen 0 60000 = true
    · skip
      by_cases h3 : inR tail 0 60000 = true
      · skip
        by_cases h4 : geoB n st = true
        · skip
          have hgb := geoB_true h4
          by_cases h5 : inR role 0 (n - 1) = true
          · skip
            go_enter Try.func49, Try.ntmps49
            go_wp2_with (first
              | (go_at_call 120; refine (c_within _ _ _ _).mono ?_; rintro e wN ⟨rfl, hb⟩; replace HS := Aside0.mk (HS.out.dr hb); clear hb; obtain ⟨k0, k1, k2, k3, k4, k5, k6, k7⟩ := eight (HS.out.get 1 rfl); obtain ⟨l1, l2⟩ := two (HS.out.get 0 rfl))
              | (go_at_call 120; refine (c_within _ _ _ _).mono ?_; rintro e wN ⟨rfl, hb⟩; have HS := Aside0.mk ((((Sep.start w []).alloc (g := w.heap.size) rfl #[.int .i64 id, .int .i64 gen, .int .i64 role, .int .i64 n, .int .i64 st, .int .i64 tail, .int .i64 lost, .int .i64 built] 53).alloc (g := w.heap.size + 1) (by simp) #[.int .i64 n, .int .i64 st] 78).dr hb); clear hb; obtain ⟨k0, k1, k2, k3, k4, k5, k6, k7⟩ := eight (HS.out.get 1 rfl); obtain ⟨l1, l2⟩ := two (HS.out.get 0 rfl))
              | (go_at_call 76; refine (c_implGeoOk _ _ _).mono ?_; rintro e wN ⟨rfl, hb⟩; replace HS := Aside0.mk (HS.out.below hb); clear hb; obtain ⟨k0, k1, k2, k3, k4, k5, k6, k7⟩ := eight (HS.out.get 1 rfl); obtain ⟨l1, l2⟩ := two (HS.out.get 0 rfl))
              | (go_at_call 131; refine (c_lostOk _ _ _ _ (by have := geoB_true h4; omega)).mono ?_; rintro e wN ⟨rfl, hb⟩; replace HS := Aside0.mk (HS.out.below hb); clear hb)
              | fail)
            go_ret
            exact ⟨ret_bool (by simp [supB, h1, h2, h3, h4, h5]), HS.out.toBelow⟩
          · simp only [Bool.not_eq_true] at h5
            go_enter Try.func49, Try.ntmps49
            go_wp2_with (first
              | (go_at_call 120; refine (c_within _ _ _ _).mono ?_; rintro e wN ⟨rfl, hb⟩; replace HS := Aside0.mk (HS.out.dr hb); clear hb; obtain ⟨k0, k1, k2, k3, k4, k5, k6, k7⟩ := eight (HS.out.get 1 rfl); obtain ⟨l1, l2⟩ := two (HS.out.get 0 rfl))
              | (go_at_call 120; refine (c_within _ _ _ _).mono ?_; rintro e wN ⟨rfl, hb⟩; have HS := Aside0.mk ((((Sep.start w []).alloc (g := w.heap.size) rfl #[.int .i64 id, .int .i64 gen, .int .i64 role, .int .i64 n, .int .i64 st, .int .i64 tail, .int .i64 lost, .int .i64 built] 53).alloc (g := w.heap.size + 1) (by simp) #[.int .i64 n, .int .i64 st] 78).dr hb); clear hb; obtain ⟨k0, k1, k2, k3, k4, k5, k6, k7⟩ := eight (HS.out.get 1 rfl); obtain ⟨l1, l2⟩ := two (HS.out.get 0 rfl))
              | (go_at_call 76; refine (c_implGeoOk _ _ _).mono ?_; rintro e wN ⟨rfl, hb⟩; replace HS := Aside0.mk (HS.out.below hb); clear hb; obtain ⟨k0, k1, k2, k3, k4, k5, k6, k7⟩ := eight (HS.out.get 1 rfl); obtain ⟨l1, l2⟩ := two (HS.out.get 0 rfl))
              | (go_at_call 131; refine (c_lostOk _ _ _ _ (by have := geoB_true h4; omega)).mono ?_; rintro e wN ⟨rfl, hb⟩; replace HS := Aside0.mk (HS.out.below hb); clear hb)
              | fail)
            go_ret
            exact ⟨ret_bool (by simp [supB, h1, h2, h3, h4, h5]), HS.out.toBelow⟩
        · simp only [Bool.not_eq_true] at h4
          go_enter Try.func49, Try.ntmps49
          go_wp2_with (first
            | (go_at_call 120; refine (c_within _ _ _ _).mono ?_; rintro e wN ⟨rfl, hb⟩; replace HS := Aside0.mk (HS.out.dr hb); clear hb; obtain ⟨k0, k1, k2, k3, k4, k5, k6, k7⟩ := eight (HS.out.get 1 rfl); obtain ⟨l1, l2⟩ := two (HS.out.get 0 rfl))
            | (go_at_call 120; refine (c_within _ _ _ _).mono ?_; rintro e wN ⟨rfl, hb⟩; have HS := Aside0.mk ((((Sep.start w []).alloc (g := w.heap.size) rfl #[.int .i64 id, .int .i64 gen, .int .i64 role, .int .i64 n, .int .i64 st, .int .i64 tail, .int .i64 lost, .int .i64 built] 53).alloc (g := w.heap.size + 1) (by simp) #[.int .i64 n, .int .i64 st] 78).dr hb); clear hb; obtain ⟨k0, k1, k2, k3, k4, k5, k6, k7⟩ := eight (HS.out.get 1 rfl); obtain ⟨l1, l2⟩ := two (HS.out.get 0 rfl))
            | (go_at_call 76; refine (c_implGeoOk _ _ _).mono ?_; rintro e wN ⟨rfl, hb⟩; replace HS := Aside0.mk (HS.out.below hb); clear hb; obtain ⟨k0, k1, k2, k3, k4, k5, k6, k7⟩ := eight (HS.out.get 1 rfl); obtain ⟨l1, l2⟩ := two (HS.out.get 0 rfl))
            | (go_at_call 131; refine (c_lostOk _ _ _ _ (by have := geoB_true h4; omega)).mono ?_; rintro e wN ⟨rfl, hb⟩; replace HS := Aside0.mk (HS.out.below hb); clear hb)
            | fail)
          go_ret
          exact ⟨ret_bool (by simp [supB, h1, h2, h3, h4]), HS.out.toBelow⟩
      · simp only [Bool.not_eq_true] at h3
        go_enter Try.func49, Try.ntmps49
        go_wp2_with (first
          | (go_at_call 120; refine (c_within _ _ _ _).mono ?_; rintro e wN ⟨rfl, hb⟩; replace HS := Aside0.mk (HS.out.dr hb); clear hb; obtain ⟨k0, k1, k2, k3, k4, k5, k6, k7⟩ := eight (HS.out.get 1 rfl); obtain ⟨l1, l2⟩ := two (HS.out.get 0 rfl))
          | (go_at_call 120; refine (c_within _ _ _ _).mono ?_; rintro e wN ⟨rfl, hb⟩; have HS := Aside0.mk ((((Sep.start w []).alloc (g := w.heap.size) rfl #[.int .i64 id, .int .i64 gen, .int .i64 role, .int .i64 n, .int .i64 st, .int .i64 tail, .int .i64 lost, .int .i64 built] 53).alloc (g := w.heap.size + 1) (by simp) #[.int .i64 n, .int .i64 st] 78).dr hb); clear hb; obtain ⟨k0, k1, k2, k3, k4, k5, k6, k7⟩ := eight (HS.out.get 1 rfl); obtain ⟨l1, l2⟩ := two (HS.out.get 0 rfl))
          | (go_at_call 76; refine (c_implGeoOk _ _ _).mono ?_; rintro e wN ⟨rfl, hb⟩; replace HS := Aside0.mk (HS.out.below hb); clear hb; obtain ⟨k0, k1, k2, k3, k4, k5, k6, k7⟩ := eight (HS.out.get 1 rfl); obtain ⟨l1, l2⟩ := two (HS.out.get 0 rfl))
          | (go_at_call 131; refine (c_lostOk _ _ _ _ (by have := geoB_true h4; omega)).mono ?_; rintro e wN ⟨rfl, hb⟩; replace HS := Aside0.mk (HS.out.below hb); clear hb)
          | fail)
        go_ret
        exact ⟨ret_bool (by simp [supB, h1, h2, h3]), HS.out.toBelow⟩
    · simp only [Bool.not_eq_true] at h2
      go_enter Try.func49, Try.ntmps49
      go_wp2_with (first
        | (go_at_call 120; refine (c_within _ _ _ _).mono ?_; rintro e wN ⟨rfl, hb⟩; replace HS := Aside0.mk (HS.out.dr hb); clear hb; obtain ⟨k0, k1, k2, k3, k4, k5, k6, k7⟩ := eight (HS.out.get 1 rfl); obtain ⟨l1, l2⟩ := two (HS.out.get 0 rfl))
        | (go_at_call 120; refine (c_within _ _ _ _).mono ?_; rintro e wN ⟨rfl, hb⟩; have HS := Aside0.mk ((((Sep.start w []).alloc (g := w.heap.size) rfl #[.int .i64 id, .int .i64 gen, .int .i64 role, .int .i64 n, .int .i64 st, .int .i64 tail, .int .i64 lost, .int .i64 built] 53).alloc (g := w.heap.size + 1) (by simp) #[.int .i64 n, .int .i64 st] 78).dr hb); clear hb; obtain ⟨k0, k1, k2, k3, k4, k5, k6, k7⟩ := eight (HS.out.get 1 rfl); obtain ⟨l1, l2⟩ := two (HS.out.get 0 rfl))
        | (go_at_call 76; refine (c_implGeoOk _ _ _).mono ?_; rintro e wN ⟨rfl, hb⟩; replace HS := Aside0.mk (HS.out.below hb); clear hb; obtain ⟨k0, k1, k2, k3, k4, k5, k6, k7⟩ := eight (HS.out.get 1 rfl); obtain ⟨l1, l2⟩ := two (HS.out.get 0 rfl))
        | (go_at_call 131; refine (c_lostOk _ _ _ _ (by have := geoB_true h4; omega)).mono ?_; rintro e wN ⟨rfl, hb⟩; replace HS := Aside0.mk (HS.out.below hb); clear hb)
        | fail)
      go_ret
      exact ⟨ret_bool (by simp [supB, h1, h2]), HS.out.toBelow⟩
  · simp only [Bool.not_eq_true] at h1
    go_enter Try.func49, Try.ntmps49
    go_wp2_with (first
      | (go_at_call 120; refine (c_within _ _ _ _).mono ?_; rintro e wN ⟨rfl, hb⟩; replace HS := Aside0.mk (HS.out.dr hb); clear hb; obtain ⟨k0, k1, k2, k3, k4, k5, k6, k7⟩ := eight (HS.out.get 1 rfl); obtain ⟨l1, l2⟩ := two (HS.out.get 0 rfl))
      | (go_at_call 120; refine (c_within _ _ _ _).mono ?_; rintro e wN ⟨rfl, hb⟩; have HS := Aside0.mk ((((Sep.start w []).alloc (g := w.heap.size) rfl #[.int .i64 id, .int .i64 gen, .int .i64 role, .int .i64 n, .int .i64 st, .int .i64 tail, .int .i64 lost, .int .i64 built] 53).alloc (g := w.heap.size + 1) (by simp) #[.int .i64 n, .int .i64 st] 78).dr hb); clear hb; obtain ⟨k0, k1, k2, k3, k4, k5, k6, k7⟩ := eight (HS.out.get 1 rfl); obtain ⟨l1, l2⟩ := two (HS.out.get 0 rfl))
      | (go_at_call 76; refine (c_implGeoOk _ _ _).mono ?_; rintro e wN ⟨rfl, hb⟩; replace HS := Aside0.mk (HS.out.below hb); clear hb; obtain ⟨k0, k1, k2, k3, k4, k5, k6, k7⟩ := eight (HS.out.get 1 rfl); obtain ⟨l1, l2⟩ := two (HS.out.get 0 rfl))
      | (go_at_call 131; refine (c_lostOk _ _ _ _ (by have := geoB_true h4; omega)).mono ?_; rintro e wN ⟨rfl, hb⟩; replace HS := Aside0.mk (HS.out.below hb); clear hb)
      | fail)
    go_ret
    exact ⟨ret_bool (by simp [supB, h1]), HS.out.toBelow⟩
set_option maxHeartbeats 2000000 in
theorem c_specSuperOk (id gen role n st tail lost built : Int) (w : World) :
    Calls Try.prog 50 #[.agg #[.int .i64 id, .int .i64 gen, .int .i64 role, .int .i64 n, .int .i64 st, .int .i64 tail, .int .i64 lost, .int .i64 built]] w fun e w' => e = .returned (.bool (supB ⟨id, gen, role, n, st, tail, lost, built⟩)) ∧ Below w.heap.size w w' := by
  by_cases h4 : geoB n st = true
  · skip
    have hgb := geoB_true h4
    by_cases h1 : inR id 1 60000 = true
    · skip
      by_cases h2 : inR gen 0 60000 = true
      · skip
        by_cases h5 : inR role 0 (n - 1) = true
        · skip
          by_cases h3 : inR tail 0 60000 = true
          · skip
            by_cases h6 : inR lost (-1) (n - 1) = true
            · skip
              have hlo := (inR_true h6).1
              by_cases h7 : inR built 0 st = true
              · skip
                by_cases h8 : decide (0 ≤ lost) = true
                · skip
                  go_enter Try.func50, Try.ntmps50
                  go_wp2_with (first
                    | (go_at_call 96; refine (c_l1In _ _ _ _).mono ?_; rintro e wN ⟨rfl, hb⟩; replace HS := Aside0.mk (HS.out.dr hb); clear hb; obtain ⟨k0, k1, k2, k3, k4, k5, k6, k7⟩ := eight (HS.out.get 0 rfl))
                    | (go_at_call 77; refine (c_specGeoOk _ _ _).mono ?_; rintro e wN ⟨rfl, hb⟩; have HS := Aside0.mk (((Sep.start w []).alloc (g := w.heap.size) rfl #[.int .i64 id, .int .i64 gen, .int .i64 role, .int .i64 n, .int .i64 st, .int .i64 tail, .int .i64 lost, .int .i64 built] 53).below hb); clear hb; obtain ⟨k0, k1, k2, k3, k4, k5, k6, k7⟩ := eight (HS.out.get 0 rfl))
                    | fail)
                  go_ret
                  exact ⟨ret_bool (by simp [supB, lostB, h4, h1, h2, h5, h3, h6, h7, h8]; simp at h8; omega), HS.out.toBelow⟩
                · simp only [Bool.not_eq_true] at h8
                  go_enter Try.func50, Try.ntmps50
                  go_wp2_with (first
                    | (go_at_call 96; refine (c_l1In _ _ _ _).mono ?_; rintro e wN ⟨rfl, hb⟩; replace HS := Aside0.mk (HS.out.dr hb); clear hb; obtain ⟨k0, k1, k2, k3, k4, k5, k6, k7⟩ := eight (HS.out.get 0 rfl))
                    | (go_at_call 77; refine (c_specGeoOk _ _ _).mono ?_; rintro e wN ⟨rfl, hb⟩; have HS := Aside0.mk (((Sep.start w []).alloc (g := w.heap.size) rfl #[.int .i64 id, .int .i64 gen, .int .i64 role, .int .i64 n, .int .i64 st, .int .i64 tail, .int .i64 lost, .int .i64 built] 53).below hb); clear hb; obtain ⟨k0, k1, k2, k3, k4, k5, k6, k7⟩ := eight (HS.out.get 0 rfl))
                    | fail)
                  go_ret
                  exact ⟨ret_bool (by simp [supB, lostB, h4, h1, h2, h5, h3, h6, h7, h8]; simp at h8; omega), HS.out.toBelow⟩
              · simp only [Bool.not_eq_true] at h7
                go_enter Try.func50, Try.ntmps50
                go_wp2_with (first
                  | (go_at_call 96; refine (c_l1In _ _ _ _).mono ?_; rintro e wN ⟨rfl, hb⟩; replace HS := Aside0.mk (HS.out.dr hb); clear hb; obtain ⟨k0, k1, k2, k3, k4, k5, k6, k7⟩ := eight (HS.out.get 0 rfl))
                  | (go_at_call 77; refine (c_specGeoOk _ _ _).mono ?_; rintro e wN ⟨rfl, hb⟩; have HS := Aside0.mk (((Sep.start w []).alloc (g := w.heap.size) rfl #[.int .i64 id, .int .i64 gen, .int .i64 role, .int .i64 n, .int .i64 st, .int .i64 tail, .int .i64 lost, .int .i64 built] 53).below hb); clear hb; obtain ⟨k0, k1, k2, k3, k4, k5, k6, k7⟩ := eight (HS.out.get 0 rfl))
                  | fail)
                go_ret
                exact ⟨ret_bool (by simp [supB, lostB, h4, h1, h2, h5, h3, h6, h7]), HS.out.toBelow⟩
            · simp only [Bool.not_eq_true] at h6
              go_enter Try.func50, Try.ntmps50
              go_wp2_with (first
                | (go_at_call 96; refine (c_l1In _ _ _ _).mono ?_; rintro e wN ⟨rfl, hb⟩; replace HS := Aside0.mk (HS.out.dr hb); clear hb; obtain ⟨k0, k1, k2, k3, k4, k5, k6, k7⟩ := eight (HS.out.get 0 rfl))
                | (go_at_call 77; refine (c_specGeoOk _ _ _).mono ?_; rintro e wN ⟨rfl, hb⟩; have HS := Aside0.mk (((Sep.start w []).alloc (g := w.heap.size) rfl #[.int .i64 id, .int .i64 gen, .int .i64 role, .int .i64 n, .int .i64 st, .int .i64 tail, .int .i64 lost, .int .i64 built] 53).below hb); clear hb; obtain ⟨k0, k1, k2, k3, k4, k5, k6, k7⟩ := eight (HS.out.get 0 rfl))
                | fail)
              go_ret
              exact ⟨ret_bool (by simp [supB, lostB, h4, h1, h2, h5, h3, h6]), HS.out.toBelow⟩
          · simp only [Bool.not_eq_true] at h3
            go_enter Try.func50, Try.ntmps50
            go_wp2_with (first
              | (go_at_call 96; refine (c_l1In _ _ _ _).mono ?_; rintro e wN ⟨rfl, hb⟩; replace HS := Aside0.mk (HS.out.dr hb); clear hb; obtain ⟨k0, k1, k2, k3, k4, k5, k6, k7⟩ := eight (HS.out.get 0 rfl))
              | (go_at_call 77; refine (c_specGeoOk _ _ _).mono ?_; rintro e wN ⟨rfl, hb⟩; have HS := Aside0.mk (((Sep.start w []).alloc (g := w.heap.size) rfl #[.int .i64 id, .int .i64 gen, .int .i64 role, .int .i64 n, .int .i64 st, .int .i64 tail, .int .i64 lost, .int .i64 built] 53).below hb); clear hb; obtain ⟨k0, k1, k2, k3, k4, k5, k6, k7⟩ := eight (HS.out.get 0 rfl))
              | fail)
            go_ret
            exact ⟨ret_bool (by simp [supB, lostB, h4, h1, h2, h5, h3]), HS.out.toBelow⟩
        · simp only [Bool.not_eq_true] at h5
          go_enter Try.func50, Try.ntmps50
          go_wp2_with (first
            | (go_at_call 96; refine (c_l1In _ _ _ _).mono ?_; rintro e wN ⟨rfl, hb⟩; replace HS := Aside0.mk (HS.out.dr hb); clear hb; obtain ⟨k0, k1, k2, k3, k4, k5, k6, k7⟩ := eight (HS.out.get 0 rfl))
            | (go_at_call 77; refine (c_specGeoOk _ _ _).mono ?_; rintro e wN ⟨rfl, hb⟩; have HS := Aside0.mk (((Sep.start w []).alloc (g := w.heap.size) rfl #[.int .i64 id, .int .i64 gen, .int .i64 role, .int .i64 n, .int .i64 st, .int .i64 tail, .int .i64 lost, .int .i64 built] 53).below hb); clear hb; obtain ⟨k0, k1, k2, k3, k4, k5, k6, k7⟩ := eight (HS.out.get 0 rfl))
            | fail)
          go_ret
          exact ⟨ret_bool (by simp [supB, lostB, h4, h1, h2, h5]), HS.out.toBelow⟩
      · simp only [Bool.not_eq_true] at h2
        go_enter Try.func50, Try.ntmps50
        go_wp2_with (first
          | (go_at_call 96; refine (c_l1In _ _ _ _).mono ?_; rintro e wN ⟨rfl, hb⟩; replace HS := Aside0.mk (HS.out.dr hb); clear hb; obtain ⟨k0, k1, k2, k3, k4, k5, k6, k7⟩ := eight (HS.out.get 0 rfl))
          | (go_at_call 77; refine (c_specGeoOk _ _ _).mono ?_; rintro e wN ⟨rfl, hb⟩; have HS := Aside0.mk (((Sep.start w []).alloc (g := w.heap.size) rfl #[.int .i64 id, .int .i64 gen, .int .i64 role, .int .i64 n, .int .i64 st, .int .i64 tail, .int .i64 lost, .int .i64 built] 53).below hb); clear hb; obtain ⟨k0, k1, k2, k3, k4, k5, k6, k7⟩ := eight (HS.out.get 0 rfl))
          | fail)
        go_ret
        exact ⟨ret_bool (by simp [supB, lostB, h4, h1, h2]), HS.out.toBelow⟩
    · simp only [Bool.not_eq_true] at h1
      go_enter Try.func50, Try.ntmps50
      go_wp2_with (first
        | (go_at_call 96; refine (c_l1In _ _ _ _).mono ?_; rintro e wN ⟨rfl, hb⟩; replace HS := Aside0.mk (HS.out.dr hb); clear hb; obtain ⟨k0, k1, k2, k3, k4, k5, k6, k7⟩ := eight (HS.out.get 0 rfl))
        | (go_at_call 77; refine (c_specGeoOk _ _ _).mono ?_; rintro e wN ⟨rfl, hb⟩; have HS := Aside0.mk (((Sep.start w []).alloc (g := w.heap.size) rfl #[.int .i64 id, .int .i64 gen, .int .i64 role, .int .i64 n, .int .i64 st, .int .i64 tail, .int .i64 lost, .int .i64 built] 53).below hb); clear hb; obtain ⟨k0, k1, k2, k3, k4, k5, k6, k7⟩ := eight (HS.out.get 0 rfl))
        | fail)
      go_ret
      exact ⟨ret_bool (by simp [supB, lostB, h4, h1]), HS.out.toBelow⟩
  · simp only [Bool.not_eq_true] at h4
    go_enter Try.func50, Try.ntmps50
    go_wp2_with (first
      | (go_at_call 96; refine (c_l1In _ _ _ _).mono ?_; rintro e wN ⟨rfl, hb⟩; replace HS := Aside0.mk (HS.out.dr hb); clear hb; obtain ⟨k0, k1, k2, k3, k4, k5, k6, k7⟩ := eight (HS.out.get 0 rfl))
      | (go_at_call 77; refine (c_specGeoOk _ _ _).mono ?_; rintro e wN ⟨rfl, hb⟩; have HS := Aside0.mk (((Sep.start w []).alloc (g := w.heap.size) rfl #[.int .i64 id, .int .i64 gen, .int .i64 role, .int .i64 n, .int .i64 st, .int .i64 tail, .int .i64 lost, .int .i64 built] 53).below hb); clear hb; obtain ⟨k0, k1, k2, k3, k4, k5, k6, k7⟩ := eight (HS.out.get 0 rfl))
      | fail)
    go_ret
    exact ⟨ret_bool (by simp [supB, lostB, h4]), HS.out.toBelow⟩
theorem lies_ints {w : World} {e : TypeId} {g : Nat} {l : List Int} {n : Nat} {cs : Array Value} (h : w.heap[g]? = some (.cells cs e (0, 0))) (hn : l.length = n) (hc : cs.toList = nums .i64 l) (hm : n ≤ 1000) : Lies w (rw_ oInt e [g] (.slice (some ⟨g, 0, none⟩) n n) l) := by
  subst hn
  have hs : cs.size = l.length := by rw [← Array.length_toList, hc]; simp [nums]
  refine lies_row (O_int .i64 (v := .slice (some ⟨g, 0, none⟩) l.length l.length) ⟨by simp [nums], .inr ⟨g, l.length, cs, rfl, Nat.zero_le _, h, Nat.le_refl _, by unfold maxLen; omega, by rw [hs]; simp, ?_⟩⟩ rfl)
  rw [Nat.mul_one, hc, List.take_of_length_le (by simp [nums])]
theorem new_lit {w0 w : World} {S : List Nat} {L : List Res} (h : Sep w0 S w L) {g : Nat} (hg : w.heap.size = g) (e : TypeId) (cs : Array Value) {l : List Int} {n : Nat} (hn : l.length = n) (hc : cs.toList = nums .i64 l) (hm : n ≤ 1000) : Sep w0 S (w.alloc (.cells cs e (0, 0))) (rw_ oInt e [g] (.slice (some ⟨g, 0, none⟩) n n) l :: L) :=
  Sep.glue (M := [bx g e cs]) (h.alloc hg cs e) (by simp [fps, bx, rw_]) (lies_ints ((h.alloc hg cs e).get 0 rfl) hn hc hm)
set_option maxHeartbeats 2000000 in
theorem c_implPutSuper (id gen role n st tail lost built : Int) (w : World) :
    Calls Try.prog 42 #[.agg #[.int .i64 id, .int .i64 gen, .int .i64 role, .int .i64 n, .int .i64 st, .int .i64 tail, .int .i64 lost, .int .i64 built]] w fun e w' => ∃ u F, e = .returned u ∧ New w w' (rw_ oInt 3 F u (putSup ⟨id, gen, role, n, st, tail, lost, built⟩)) := by
  by_cases h : supB ⟨id, gen, role, n, st, tail, lost, built⟩ = true
  · have hp : putSup ⟨id, gen, role, n, st, tail, lost, built⟩ = supL ⟨id, gen, role, n, st, tail, lost, built⟩ := by unfold putSup; rw [if_pos h]
    have hlo : -1 ≤ lost ∧ lost ≤ 4 := by simp [supB, lostB, inR, geoB] at h; omega
    have Hp := Aside0.mk hp
    clear hp
    go_enter Try.func42, Try.ntmps42
    go_wp2_with (first
      | (go_at_call 49; refine (c_implSuperOk _ _ _ _ _ _ _ _ _).mono ?_; rw [h]; rintro e wN ⟨rfl, hb⟩; have HS := Aside0.mk (((Sep.start w []).alloc (g := w.heap.size) rfl #[.int .i64 id, .int .i64 gen, .int .i64 role, .int .i64 n, .int .i64 st, .int .i64 tail, .int .i64 lost, .int .i64 built] 53).below hb); clear hb; obtain ⟨k0, k1, k2, k3, k4, k5, k6, k7⟩ := eight (HS.out.get 0 rfl))
      | fail)
    go_ret
    exact ⟨_, _, rfl, by rw [Hp.out]; exact (new_lit HS.out rfl 3 _ (l := supL ⟨id, gen, role, n, st, tail, lost, built⟩) (n := 9) rfl rfl (by decide)).toNew 0 rfl⟩
  · simp only [Bool.not_eq_true] at h
    have hp : putSup ⟨id, gen, role, n, st, tail, lost, built⟩ = [] := by unfold putSup; rw [h]; rfl
    have Hp := Aside0.mk hp
    clear hp
    go_enter Try.func42, Try.ntmps42
    go_wp2_with (first
      | (go_at_call 49; refine (c_implSuperOk _ _ _ _ _ _ _ _ _).mono ?_; rw [h]; rintro e wN ⟨rfl, hb⟩; have HS := Aside0.mk (((Sep.start w []).alloc (g := w.heap.size) rfl #[.int .i64 id, .int .i64 gen, .int .i64 role, .int .i64 n, .int .i64 st, .int .i64 tail, .int .i64 lost, .int .i64 built] 53).below hb); clear hb)
      | fail)
    go_ret
    exact ⟨_, _, rfl, by rw [Hp.out]; exact (HS.out.nil oInt 3).toNew 0 rfl⟩
set_option maxHeartbeats 2000000 in
theorem c_specPutSuper (id gen role n st tail lost built : Int) (w : World) :
    Calls Try.prog 127 #[.agg #[.int .i64 id, .int .i64 gen, .int .i64 role, .int .i64 n, .int .i64 st, .int .i64 tail, .int .i64 lost, .int .i64 built]] w fun e w' => ∃ u F, e = .returned u ∧ New w w' (rw_ oInt 3 F u (putSup ⟨id, gen, role, n, st, tail, lost, built⟩)) := by
  by_cases h : supB ⟨id, gen, role, n, st, tail, lost, built⟩ = true
  · have hp : putSup ⟨id, gen, role, n, st, tail, lost, built⟩ = supL ⟨id, gen, role, n, st, tail, lost, built⟩ := by unfold putSup; rw [if_pos h]
    have hlo : -1 ≤ lost ∧ lost ≤ 4 := by simp [supB, lostB, inR, geoB] at h; omega
    have Hp := Aside0.mk hp
    clear hp
    go_enter Try.func127, Try.ntmps127
    go_wp2_with (first
      | (go_at_call 50; refine (c_specSuperOk _ _ _ _ _ _ _ _ _).mono ?_; rw [h]; rintro e wN ⟨rfl, hb⟩; have HS := Aside0.mk (((Sep.start w []).alloc (g := w.heap.size) rfl #[.int .i64 id, .int .i64 gen, .int .i64 role, .int .i64 n, .int .i64 st, .int .i64 tail, .int .i64 lost, .int .i64 built] 53).below hb); clear hb; obtain ⟨k0, k1, k2, k3, k4, k5, k6, k7⟩ := eight (HS.out.get 0 rfl))
      | fail)
    go_ret
    exact ⟨_, _, rfl, by rw [Hp.out]; exact (new_lit HS.out rfl 3 _ (l := supL ⟨id, gen, role, n, st, tail, lost, built⟩) (n := 9) rfl rfl (by decide)).toNew 0 rfl⟩
  · simp only [Bool.not_eq_true] at h
    have hp : putSup ⟨id, gen, role, n, st, tail, lost, built⟩ = [] := by unfold putSup; rw [h]; rfl
    have Hp := Aside0.mk hp
    clear hp
    go_enter Try.func127, Try.ntmps127
    go_wp2_with (first
      | (go_at_call 50; refine (c_specSuperOk _ _ _ _ _ _ _ _ _).mono ?_; rw [h]; rintro e wN ⟨rfl, hb⟩; have HS := Aside0.mk (((Sep.start w []).alloc (g := w.heap.size) rfl #[.int .i64 id, .int .i64 gen, .int .i64 role, .int .i64 n, .int .i64 st, .int .i64 tail, .int .i64 lost, .int .i64 built] 53).below hb); clear hb)
      | fail)
    go_ret
    exact ⟨_, _, rfl, by rw [Hp.out]; exact (HS.out.lit rfl oInt 3).toNew 0 rfl⟩
end Go.Proofs.Ytlmnmcfieagmbaa.MSuper
