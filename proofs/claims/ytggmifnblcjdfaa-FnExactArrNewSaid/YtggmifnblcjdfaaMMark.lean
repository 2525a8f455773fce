/- Contracts of mark.. over sectors, caches and disks: what is owned is filled with numbers, nothing else turns. -/
import Derived.Test.YtggmifnblcjdfaaMHeld
import Derived.Test.YtggmifnblcjdfaaMPut
namespace Go.Proofs.Ytggmifnblcjdfaa.MMark
open Go.RowKit Go.Proofs.YtggmifnblcjdfaaW.PrintWords Go.Proofs.Ytggmifnblcjdfaa.Fp Go.Proofs.Ytggmifnblcjdfaa.MInt Go.Proofs.Ytggmifnblcjdfaa.MKinds Go.Proofs.Ytggmifnblcjdfaa.MRead Go.Proofs.Ytggmifnblcjdfaa.MHeld Go.Proofs.Ytggmifnblcjdfaa.MPut
set_option linter.unusedVariables false
set_option linter.unusedSimpArgs false
theorem get_of_map_len {xs ys : List (List Int)} (h : ys.map List.length = xs.map List.length) {i : Nat} {x : List Int} (hx : xs[i]? = some x) : ∃ y, ys[i]? = some y ∧ y.length = x.length := by
  have h1 := congrArg (fun l => l[i]?) h
  simp only [List.getElem?_map, hx, Option.map_some] at h1
  obtain ⟨y, hy, hl⟩ := Option.map_eq_some_iff.1 h1
  exact ⟨y, hy, hl⟩
theorem map_set_len {xs ys : List (List Int)} (h : ys.map List.length = xs.map List.length) {i : Nat} {x z : List Int} (hx : xs[i]? = some x) (hz : z.length = x.length) : (ys.set i z).map List.length = xs.map List.length := by
  rw [List.map_set, h, hz]
  apply List.ext_getElem?
  intro j
  rw [List.getElem?_set]
  split
  · rename_i e; subst e
    split
    · rw [List.getElem?_map, hx]; rfl
    · rename_i h2; rw [List.getElem?_eq_none (by omega)]
  · rfl
set_option maxHeartbeats 1000000 in
set_option maxRecDepth 100000 in
theorem c_markIntSS {w : World} {v : Value} {F : List Nat} {xs : List (List Int)} {e : TypeId} {k : Int} (h : oSec.O e w F v xs) (hnd : F.Nodup) (h0 : -9223372036854775808 ≤ k) (h1 : k + tot xs ≤ 9223372036854775807) :
    Calls Try.prog 100 #[v, .int .i64 k] w fun r w' => r = .returned (.int .i64 (k + tot xs)) ∧ oSec.O e w' F v (mkSS k xs) ∧ Chg F w w' := by
  have lx := RK_len (O_RK h)
  by_cases hn : 0 < xs.length
  · obtain ⟨g, cap, rfl, hg, _⟩ := O_form h hn
    have H := Aside0.mk h
    have Hnd := Aside0.mk hnd
    clear h hg hnd
    go_enter Try.func100, Try.ntmps100
    go_wp2
    go_loopw [1, 5] (fun v1 v5 wr => ∃ i : Nat, i ≤ xs.length ∧ v5 = .int .i64 i ∧ v1 = .int .i64 (k + tot (xs.take i)) ∧ ∃ ys : List (List Int), Aside0 (ys.length = xs.length ∧ ys.map List.length = xs.map List.length ∧ ys.take i = (mkSS k xs).take i ∧ oSec.O e wr F (.slice (some ⟨g, 0, none⟩) xs.length cap) ys ∧ Chg F w wr)) (fun _ v5 _ => xs.length - (intOf v5).toNat)
    case atStart => exact ⟨0, by omega, rfl, by simp [tot], xs, ⟨rfl, rfl, by simp, H.out, Chg.refl _ _⟩⟩
    case round =>
      obtain ⟨i, hi, rfl, rfl, ys, hr⟩ := hrel
      by_cases hlt : i < xs.length
      · obtain ⟨x, hxi⟩ : ∃ x, xs[i]? = some x := ⟨_, List.getElem?_eq_getElem hlt⟩
        obtain ⟨y, hyi, hyl⟩ := get_of_map_len hr.out.2.1 hxi
        obtain ⟨c, G, ⟨u, rfl, hu⟩, _, hGF, hGn, hgG, _, hcell, _, hin, _⟩ := O_focus hr.out.2.2.2.1 Hnd.out hyi
        have cu := hcell 0 _ rfl
        simp only [show oSec.sz = 1 from rfl, Nat.mul_one, Nat.add_zero] at cu
        have HU := Aside0.mk hu
        have Hin := Aside0.mk hin
        have HGF := Aside0.mk hGF
        have Hs := Aside0.mk (tot_succ hxi)
        have hle := tot_le (l := xs) (i + 1)
        rw [tot_succ hxi] at hle
        have Hget := Aside0.mk (mkSS_get (k := k) hxi)
        have Hxi := Aside0.mk hxi
        have Hyl := Aside0.mk hyl
        clear hu hin hcell hGF hxi hyi
        generalize ht : tot (xs.take i) = t at *
        have Ht := Aside0.mk ht
        clear ht
        go_wp2_with (first | (go_at_call 26; refine (c_markIntS HU.out (by omega) (by omega)).mono ?_; rw [Hyl.out]; rintro e w1 ⟨rfl, hO, hC⟩; have HO := Aside0.mk hO; have HC := Aside0.mk hC; clear hO hC) | fail)
        go_roundw
        case rel =>
          obtain ⟨h2, h3, h4, h5, h6⟩ := hr.out
          refine ⟨i + 1, by omega, by go_num, by rw [Hs.out]; go_num, ys.set i (cntL (k + t) x.length), ⟨by simp [h2], map_set_len h3 Hxi.out (cntL_length _ _), ?_, Hin.out w1 G _ HC.out (fun k hk _ => hk) ⟨u, rfl, HO.out⟩, h6.trans (HC.out.mono HGF.out)⟩⟩
          have hl9 : i < ys.length := by omega
          obtain ⟨q1, q2⟩ := List.getElem?_eq_some_iff.1 Hget.out
          rw [List.take_succ_eq_append_getElem (by simp; omega), List.take_set_of_le (Nat.le_refl _), h4, List.getElem_set_self, List.take_succ_eq_append_getElem q1, q2]
        case measure => simp [intOf]; omega
      · obtain rfl : i = xs.length := by omega
        rw [List.take_length]
        go_wp2
        go_ret
        obtain ⟨h2, h3, h4, h5, h6⟩ := hr.out
        rw [List.take_of_length_le (by omega), List.take_of_length_le (by rw [mkSS_length]; omega)] at h4
        subst h4
        exact ⟨rfl, h5, h6⟩
  · have h2 : xs = [] := List.eq_nil_of_length_eq_zero (by omega)
    subst h2
    have H := Aside0.mk h
    obtain ⟨A, ca, rfl, _, _⟩ := O_RK h
    go_enter Try.func100, Try.ntmps100
    go_wp2
    refine wp_loop_rounds 1 ?_
    rw [rounds_succ]
    go_wp2
    go_ret
    exact ⟨by simp [tot], H.out, Chg.refl _ _⟩
theorem getW_of_map_len {xs ys : List (Int × List Int)} (h : ys.map (fun e => e.2.length) = xs.map (fun e => e.2.length)) {i : Nat} {x : Int × List Int} (hx : xs[i]? = some x) : ∃ y, ys[i]? = some y ∧ y.2.length = x.2.length := by
  have h1 := congrArg (fun l => l[i]?) h
  simp only [List.getElem?_map, hx, Option.map_some] at h1
  obtain ⟨y, hy, hl⟩ := Option.map_eq_some_iff.1 h1
  exact ⟨y, hy, hl⟩
theorem mapW_set_len {xs ys : List (Int × List Int)} (h : ys.map (fun e => e.2.length) = xs.map (fun e => e.2.length)) {i : Nat} {x z : Int × List Int} (hx : xs[i]? = some x) (hz : z.2.length = x.2.length) : (ys.set i z).map (fun e => e.2.length) = xs.map (fun e => e.2.length) := by
  rw [List.map_set, h, hz]
  apply List.ext_getElem?
  intro j
  rw [List.getElem?_set]
  split
  · rename_i e; subst e
    split
    · rw [List.getElem?_map, hx]; rfl
    · rename_i h2; rw [List.getElem?_eq_none (by omega)]
  · rfl
/-- The number of an entry stored; then the entry's slice in that world. -/
theorem O_wr_num {e : TypeId} {w : World} {F : List Nat} {g n cap : Nat} {xs : List (Int × List Int)} (h : oWr.O e w F (.slice (some ⟨g, 0, none⟩) n cap) xs) (hnd : F.Nodup) {i : Nat} {x : Int × List Int} (hi : xs[i]? = some x) (z : Int) :
    ∃ u F1 G, w.cell? ⟨g, i * 2, none⟩ = some (.int .i64 x.1) ∧ w.frozen? ⟨g, i * 2, none⟩ = false ∧ w.cell? ⟨g, i * 2 + 1, none⟩ = some u ∧ g ∈ F ∧
      oInt.O 3 (w.setCell ⟨g, i * 2, none⟩ (.int .i64 z)) G u x.2 ∧ F1.Nodup ∧ (∀ k ∈ F1, k ∈ F) ∧ (∀ k ∈ G, k ∈ F) ∧
      ∀ (w1 : World) (ys : List Int), Chg G (w.setCell ⟨g, i * 2, none⟩ (.int .i64 z)) w1 → oInt.O 3 w1 G u ys → oWr.O e w1 F1 (.slice (some ⟨g, 0, none⟩) n cap) (xs.set i (z, ys)) := by
  obtain ⟨c, G, ⟨F0, G0, c1, c2, rfl, rfl, ⟨rfl, rfl⟩, u, rfl, hu⟩, _, hGF, hGn, hgG, hgF, hcell, hfr, _, hput⟩ := O_focus h hnd hi
  simp only [List.nil_append] at *
  have q1 := hcell 0 _ rfl
  have q2 := hcell 1 _ rfl
  have q3 := hfr 0
  simp only [show oWr.sz = 2 from rfl, Nat.add_zero] at q1 q2 q3
  have hu1 : oInt.O 3 (w.setCell ⟨g, i * 2, none⟩ (.int .i64 z)) G0 u x.2 := O_move hu (fun k hk => Below.heap_setCell _ _ _ _ (fun e => hgG (by rw [show k = g from e] at hk; exact hk)))
  obtain ⟨F1, hO1, hF1, hF1s⟩ := hput G0 (z, x.2) 0 (.int .i64 z) (by decide) ⟨[], G0, [.int .i64 z], [u], rfl, rfl, ⟨rfl, rfl⟩, u, rfl, by simpa [show oWr.sz = 2 from rfl] using hu1⟩ hGn (fun k hk _ => hk)
  simp only [show oWr.sz = 2 from rfl, Nat.add_zero] at hO1
  have hil : i < xs.length := (List.getElem?_eq_some_iff.1 hi).1
  obtain ⟨c', G', ⟨F0', G0', c1', c2', rfl, rfl, ⟨rfl, rfl⟩, u', rfl, hu'⟩, _, hGF', hGn', hgG', hgF', hcell', _, hin', _⟩ := O_focus hO1 hF1 (x := (z, x.2)) (i := i) (by rw [List.getElem?_set_self hil])
  simp only [List.nil_append] at *
  have hs : ∀ k ∈ F1, k ∈ F := fun k hk => (hF1s k hk).elim id (hGF k)
  have q4 := hcell' 1 _ rfl
  simp only [show oWr.sz = 2 from rfl] at q4
  have q5 : (w.setCell ⟨g, i * 2, none⟩ (.int .i64 z)).cell? ⟨g, i * 2 + 1, none⟩ = w.cell? ⟨g, i * 2 + 1, none⟩ := by
    apply World.cell?_setCell_other
    intro e; simp at e
  rw [q5, q2] at q4
  obtain rfl : u = u' := by simpa using q4
  refine ⟨u, F1, G0', q1, q3, q2, hgF, hu', hF1, hs, fun k hk => hs k (hGF' k hk), fun w1 ys hc hy => ?_⟩
  have := hin' w1 G0' (z, ys) hc (fun k hk _ => hk) ⟨[], G0', [.int .i64 z], [u], rfl, rfl, ⟨rfl, rfl⟩, u, rfl, hy⟩
  rwa [List.set_set] at this
set_option maxHeartbeats 1000000 in
set_option maxRecDepth 100000 in
theorem c_markWrS {w : World} {v : Value} {F : List Nat} {xs : List (Int × List Int)} {e : TypeId} {k : Int} (h : oWr.O e w F v xs) (hnd : F.Nodup) (h0 : -9223372036854775808 ≤ k) (h1 : k + totW xs ≤ 9223372036854775807) :
    Calls Try.prog 101 #[v, .int .i64 k] w fun r w' => r = .returned (.int .i64 (k + totW xs)) ∧ (∃ F', oWr.O e w' F' v (mkWrS k xs) ∧ F'.Nodup ∧ ∀ k ∈ F', k ∈ F) ∧ Chg F w w' := by
  have lx := RK_len (O_RK h)
  by_cases hn : 0 < xs.length
  · obtain ⟨g, cap, rfl, hg, _⟩ := O_form h hn
    have H := Aside0.mk h
    have Hnd := Aside0.mk hnd
    have Hg := Aside0.mk hg
    clear h hg hnd
    go_enter Try.func101, Try.ntmps101
    go_wp2
    go_loopw [1, 5] (fun v1 v5 wr => ∃ i : Nat, i ≤ xs.length ∧ v5 = .int .i64 i ∧ v1 = .int .i64 (k + totW (xs.take i)) ∧ ∃ (ys : List (Int × List Int)) (F' : List Nat), Aside0 (ys.length = xs.length ∧ ys.map (fun e => e.2.length) = xs.map (fun e => e.2.length) ∧ ys.take i = (mkWrS k xs).take i ∧ oWr.O e wr F' (.slice (some ⟨g, 0, none⟩) xs.length cap) ys ∧ Chg F w wr ∧ F'.Nodup ∧ ∀ k ∈ F', k ∈ F)) (fun _ v5 _ => xs.length - (intOf v5).toNat)
    case atStart => exact ⟨0, by omega, rfl, by simp [totW], xs, F, ⟨rfl, rfl, by simp, H.out, Chg.refl _ _, Hnd.out, fun k hk => hk⟩⟩
    case round =>
      obtain ⟨i, hi, rfl, rfl, ys, F', hr⟩ := hrel
      by_cases hlt : i < xs.length
      · obtain ⟨x, hxi⟩ : ∃ x, xs[i]? = some x := ⟨_, List.getElem?_eq_getElem hlt⟩
        obtain ⟨y, hyi, hyl⟩ := getW_of_map_len hr.out.2.1 hxi
        obtain ⟨u, F1, G, c1, c2, c3, _, hu, hF1, hF1s, hGs, hput⟩ := O_wr_num hr.out.2.2.2.1 hr.out.2.2.2.2.2.1 hyi (k + totW (xs.take i))
        have Hs := Aside0.mk (totW_succ hxi)
        have hle := totW_le (l := xs) (i + 1)
        rw [totW_succ hxi] at hle
        have Hget := Aside0.mk (mkWrS_get (k := k) hxi)
        have Hxi := Aside0.mk hxi
        have Hyl := Aside0.mk hyl
        clear hxi hyi
        generalize ht : totW (xs.take i) = t at *
        have Ht := Aside0.mk ht
        have HU := Aside0.mk hu
        have Hput := Aside0.mk hput
        have HF1 := Aside0.mk (And.intro hF1 (And.intro hF1s hGs))
        clear ht hu hput hF1 hF1s hGs
        go_wp2_with (first | (go_at_call 26; refine (c_markIntS HU.out (by omega) (by omega)).mono ?_; rw [Hyl.out]; rintro e w1 ⟨rfl, hO, hC⟩; have HO := Aside0.mk hO; have HC := Aside0.mk hC; clear hO hC) | fail)
        go_roundw
        case rel =>
          obtain ⟨h2, h3, h4, h5, h6, h7, h8⟩ := hr.out
          refine ⟨i + 1, by omega, by go_num, by rw [Hs.out]; go_num, ys.set i (k + t, cntL (k + t + 1) x.2.length), F1, ⟨by simp [h2], mapW_set_len h3 Hxi.out (cntL_length _ _), ?_, Hput.out w1 _ HC.out HO.out, (h6.set (.inl Hg.out) _).trans (HC.out.mono (fun k hk => h8 k (HF1.out.2.2 k hk))), HF1.out.1, fun k hk => h8 k (HF1.out.2.1 k hk)⟩⟩
          have hl9 : i < ys.length := by omega
          obtain ⟨q1, q2⟩ := List.getElem?_eq_some_iff.1 Hget.out
          rw [List.take_succ_eq_append_getElem (by simp; omega), List.take_set_of_le (Nat.le_refl _), h4, List.getElem_set_self, List.take_succ_eq_append_getElem q1, q2]
        case measure => simp [intOf]; omega
      · obtain rfl : i = xs.length := by omega
        rw [List.take_length]
        go_wp2
        go_ret
        obtain ⟨h2, h3, h4, h5, h6, h7, h8⟩ := hr.out
        rw [List.take_of_length_le (by omega), List.take_of_length_le (by rw [mkWrS_length]; omega)] at h4
        subst h4
        exact ⟨rfl, ⟨_, h5, h7, h8⟩, h6⟩
  · have h2 : xs = [] := List.eq_nil_of_length_eq_zero (by omega)
    subst h2
    have H := Aside0.mk h
    have Hnd := Aside0.mk hnd
    obtain ⟨A, ca, rfl, _, _⟩ := O_RK h
    clear h hnd
    go_enter Try.func101, Try.ntmps101
    go_wp2
    refine wp_loop_rounds 1 ?_
    rw [rounds_succ]
    go_wp2
    go_ret
    exact ⟨by simp [totW], ⟨_, H.out, Hnd.out, fun k hk => hk⟩, Chg.refl _ _⟩
end Go.Proofs.Ytggmifnblcjdfaa.MMark
