/- A sector, sectors, an entry of the cache, a disk: how they lie in memory, read or owned. -/
import Derived.Test.YtlmnmcfieagmbaaMMake
namespace Go.Proofs.Ytlmnmcfieagmbaa.MKinds
open Go.RowKit Go.Proofs.YtlmnmcfieagmbaaW.PrintWords Go.Proofs.Ytlmnmcfieagmbaa.Fp Go.Proofs.Ytlmnmcfieagmbaa.MInt
set_option linter.unusedVariables false
set_option linter.unusedSimpArgs false
structure MemV where
  secs : List (List Int)
  cache : List (Int × List Int)
  failed : Bool
  bad : List Int
  deriving DecidableEq
def MemV.tup (m : MemV) : List (List Int) × (List (Int × List Int) × (Bool × List Int)) := (m.secs, m.cache, m.failed, m.bad)
@[reducible] def kInt : Kd Int := Kd.int .i64
@[reducible] def kSec : Kd (List Int) := Kd.slice 3 kInt
@[reducible] def kSecs : Kd (List (List Int)) := Kd.slice 24 kSec
@[reducible] def kWr : Kd (Int × List Int) := Kd.pair kInt kSec
@[reducible] def kCache : Kd (List (Int × List Int)) := Kd.slice 66 kWr
@[reducible] def oInt : Od Int := Od.int .i64
@[reducible] def oSec : Od (List Int) := Od.slice 3 oInt
@[reducible] def oSecs : Od (List (List Int)) := Od.slice 24 oSec
@[reducible] def oWr : Od (Int × List Int) := Od.pair oInt oSec
@[reducible] def oCache : Od (List (Int × List Int)) := Od.slice 66 oWr
def oMem : Od MemV := (Od.pair oSecs (Od.pair oCache (Od.pair Od.bool oSec))).iso MemV.tup
def kMem : Kd MemV := oMem.kd

/-- A row of slices, read. -/
theorem RK_slices {α : Type} {e : Nat} {k : Kd α} {w : World} {v : Value} {l : List (List α)} (h : RK (Kd.slice e k) w v l) (hn : 0 < l.length) :
    ∃ ad cap, v = .slice (some ad) l.length cap ∧ ∀ (i : Nat) (x : List α), l[i]? = some x → ∃ u, w.cell? (ad.add i) = some u ∧ RK k w u x := by
  obtain ⟨A, cap, rfl, hl, hC⟩ := h
  obtain ⟨ad, rfl, hc⟩ := hC.2.2 hn
  refine ⟨ad, cap, rfl, fun i x hi => ?_⟩
  obtain ⟨c, _, hK, hcell⟩ := hc i x hi
  obtain ⟨u, rfl, hu⟩ := RK_of_K (e := e) hK
  have := hcell 0 _ rfl
  exact ⟨u, by simpa [Kd.slice] using this, hu⟩
/-- A cell behind another one, as a walk spells it. -/
theorem add_off (a : Addr) (n j : Nat) (hj : 0 < j) : a.add (n + j) = ⟨(a.add n).block, (a.add n).off + j, none⟩ := by
  unfold Addr.add
  by_cases hn : n = 0
  · subst hn; simp; omega
  · rw [if_neg (by omega), if_neg hn]; simp; omega
/-- A row of entries, read. -/
theorem RK_wrs {w : World} {v : Value} {l : List (Int × List Int)} (h : RK kWr w v l) (hn : 0 < l.length) :
    ∃ ad cap, v = .slice (some ad) l.length cap ∧ ∀ (i : Nat) (x : Int × List Int), l[i]? = some x → ∃ u, w.cell? (ad.add (i * 2)) = some (.int .i64 x.1) ∧ w.cell? ⟨(ad.add (i * 2)).block, (ad.add (i * 2)).off + 1, none⟩ = some u ∧ RK kInt w u x.2 := by
  obtain ⟨A, cap, rfl, hl, hC⟩ := h
  obtain ⟨ad, rfl, hc⟩ := hC.2.2 hn
  refine ⟨ad, cap, rfl, fun i x hi => ?_⟩
  obtain ⟨c, _, hK, hcell⟩ := hc i x hi
  obtain ⟨c1, c2, rfl, h1, h2⟩ := hK
  obtain rfl : c1 = [.int .i64 x.1] := h1
  obtain ⟨u, rfl, hu⟩ := RK_of_K (e := 3) h2
  exact ⟨u, hcell 0 _ rfl, by rw [← add_off _ _ _ (by decide)]; exact hcell 1 _ rfl, hu⟩
/-- A disk, read; a disk, owned: an aggregate's four cells. -/
def MemR (w : World) (v : Value) (m : MemV) : Prop := ∃ s c b, v = .agg #[s, c, .bool m.failed, b] ∧ RK kSec w s m.secs ∧ RK kWr w c m.cache ∧ RK kInt w b m.bad
def MemO (w : World) (F : List Nat) (v : Value) (m : MemV) : Prop :=
  ∃ s c b F1 F2 F3, v = .agg #[s, c, .bool m.failed, b] ∧ F = F1 ++ (F2 ++ F3) ∧ oSec.O 24 w F1 s m.secs ∧ oWr.O 66 w F2 c m.cache ∧ oInt.O 3 w F3 b m.bad
theorem MemR_below {w w1 : World} {v : Value} {m : MemV} (h : MemR w v m) (hb : Below w.heap.size w w1) : MemR w1 v m := by
  obtain ⟨s, c, b, rfl, h1, h2, h3⟩ := h
  exact ⟨s, c, b, rfl, RK_below h1 hb, RK_below h2 hb, RK_below h3 hb⟩
theorem MemO_R {w : World} {F : List Nat} {v : Value} {m : MemV} (h : MemO w F v m) : MemR w v m := by
  obtain ⟨s, c, b, F1, F2, F3, rfl, rfl, h1, h2, h3⟩ := h
  exact ⟨s, c, b, rfl, O_RK h1, O_RK h2, O_RK h3⟩
theorem MemO_lt {w : World} {F : List Nat} {v : Value} {m : MemV} (h : MemO w F v m) : ∀ k ∈ F, k < w.heap.size := by
  obtain ⟨s, c, b, F1, F2, F3, rfl, rfl, h1, h2, h3⟩ := h
  intro k hk
  rcases List.mem_append.1 hk with hk | hk
  · exact O_lt h1 k hk
  · rcases List.mem_append.1 hk with hk | hk
    · exact O_lt h2 k hk
    · exact O_lt h3 k hk
theorem MemO_move {w w1 : World} {F : List Nat} {v : Value} {m : MemV} (h : MemO w F v m) (hm : ∀ k ∈ F, w1.heap[k]? = w.heap[k]?) : MemO w1 F v m := by
  obtain ⟨s, c, b, F1, F2, F3, rfl, rfl, h1, h2, h3⟩ := h
  exact ⟨s, c, b, F1, F2, F3, rfl, rfl, O_move h1 (fun k hk => hm k (List.mem_append_left _ hk)), O_move h2 (fun k hk => hm k (List.mem_append_right _ (List.mem_append_left _ hk))), O_move h3 (fun k hk => hm k (List.mem_append_right _ (List.mem_append_right _ hk)))⟩
theorem MemO_chg {w w1 : World} {S F : List Nat} {v : Value} {m : MemV} (h : MemO w F v m) (hc : Chg S w w1) (hd : ∀ k ∈ F, k ∉ S) : MemO w1 F v m := MemO_move h (fun k hk => hc.block k (MemO_lt h k hk) (hd k hk))
theorem MemO_below {w w1 : World} {F : List Nat} {v : Value} {m : MemV} (h : MemO w F v m) (hb : Below w.heap.size w w1) : MemO w1 F v m := MemO_move h (fun k hk => hb.block k (MemO_lt h k hk))
theorem oMem_M {w : World} {F : List Nat} {m : MemV} {cs : List Value} : oMem.M w F m cs ↔ MemO w F (.agg cs.toArray) m := by
  constructor
  · rintro ⟨F1, F2, c1, c2, rfl, rfl, ⟨s, rfl, h1⟩, F3, F4, c3, c4, rfl, rfl, ⟨c, rfl, h2⟩, F5, F6, c5, c6, rfl, rfl, ⟨rfl, rfl⟩, b, rfl, h3⟩
    exact ⟨s, c, b, F1, F3, F6, rfl, by simp, h1, h2, h3⟩
  · rintro ⟨s, c, b, F1, F2, F3, hv, rfl, h1, h2, h3⟩
    have : cs = [s, c, .bool m.failed, b] := congrArg Array.toList (Value.agg.inj hv)
    subst this
    exact ⟨F1, F2 ++ F3, [s], _, rfl, rfl, ⟨s, rfl, h1⟩, F2, F3, [c], _, rfl, rfl, ⟨c, rfl, h2⟩, [], F3, [.bool m.failed], [b], rfl, rfl, ⟨rfl, rfl⟩, b, rfl, h3⟩
theorem kMem_K {w : World} {m : MemV} {cs : List Value} : kMem.K w m cs ↔ MemR w (.agg cs.toArray) m := by
  constructor
  · rintro ⟨c1, c2, rfl, h1, c3, c4, rfl, h2, c5, c6, rfl, h5, h6⟩
    obtain ⟨s, rfl, k1⟩ := RK_of_K (e := 0) h1
    obtain ⟨c, rfl, k2⟩ := RK_of_K (e := 0) h2
    obtain ⟨b, rfl, k3⟩ := RK_of_K (e := 0) h6
    obtain rfl : c5 = [.bool m.failed] := h5
    exact ⟨s, c, b, rfl, k1, k2, k3⟩
  · rintro ⟨s, c, b, hv, h1, h2, h3⟩
    have : cs = [s, c, .bool m.failed, b] := congrArg Array.toList (Value.agg.inj hv)
    subst this
    exact ⟨[s], _, rfl, RK_K h1 0, [c], _, rfl, RK_K h2 0, [.bool m.failed], [b], rfl, rfl, RK_K h3 0⟩
end Go.Proofs.Ytlmnmcfieagmbaa.MKinds
