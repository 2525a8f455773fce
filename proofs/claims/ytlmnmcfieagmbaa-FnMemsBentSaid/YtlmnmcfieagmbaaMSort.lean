/- slices.Sort and slices.Compact of a row that is owned. -/
import Derived.Test.YtlmnmcfieagmbaaShelf
import Derived.Test.YtlmnmcfieagmbaaSepT
import Derived.Test.YtlmnmcfieagmbaaMSpoilW
import Derived.Sort.OwnSortedInts
namespace Go.Proofs.Ytlmnmcfieagmbaa.MSort
open Go.RowKit Go.Proofs.YtlmnmcfieagmbaaW.PrintWords Go.Proofs.Ytlmnmcfieagmbaa.Fp Go.Proofs.Ytlmnmcfieagmbaa.MInt Go.Proofs.Ytlmnmcfieagmbaa.MKinds Go.Proofs.Ytlmnmcfieagmbaa.MRead Go.Proofs.Ytlmnmcfieagmbaa.MMake Go.Proofs.Ytlmnmcfieagmbaa.MPut Go.Proofs.Ytlmnmcfieagmbaa.Sep Go.Proofs.Ytlmnmcfieagmbaa.MSpoilW
set_option linter.unusedVariables false
set_option linter.unusedSimpArgs false
theorem row_block {w : World} {F : List Nat} {g n c : Nat} {xs : List Int} {e : TypeId} (h : oInt.O e w F (.slice (some ⟨g, 0, none⟩) n c) xs) :
    n = xs.length ∧ ∃ cur, w.heap[g]? = some (.cells cur e (0, 0)) ∧ xs.length ≤ c ∧ c ≤ maxLen ∧ cur.size = c * 1 ∧ cur.toList.take xs.length = xs.map (Value.int .i64) ∧ F = [g] := by
  obtain ⟨hr, rfl⟩ := O_int_row h
  rcases hr.2 with ⟨h', _⟩ | ⟨g', cap', cur, h', _, hb, h1, h2, h3, h4⟩
  · cases h'
  · cases h'
    exact ⟨rfl, cur, hb, h1, h2, h3, by simpa [nums] using h4, rfl⟩
theorem c_Sort {w : World} {F : List Nat} {g n c : Nat} {xs : List Int} {e : TypeId} (h : oInt.O e w F (.slice (some ⟨g, 0, none⟩) n c) xs) (hl : xs.length ≤ 16777217) :
    Calls Try.prog 103 #[.slice (some ⟨g, 0, none⟩) n c] w fun r w' => r = .returned (.tuple #[]) ∧ Upd w w' F (rw_ oInt e F (.slice (some ⟨g, 0, none⟩) n c) (sortI xs)) := by
  obtain ⟨rfl, cur, hb, h1, h2, h3, h4, rfl⟩ := row_block h
  refine (Try.slices_Sort_int g 0 c xs w (holds_of_blockI hb h4) (blk_lt hb) (by omega)).mono ?_
  rintro r w' ⟨rfl, q, os, rfl⟩
  refine ⟨rfl, Chg.of_grown (row := some g) (grownBy_sortedI _), by simp [rw_], fun k hk => .inl hk, lies_row ?_⟩
  have h5 := ownsRow_sortedI (n := q) (os := os) (ss := xs) (ts := sortI xs) (sortI_len xs) (Nat.zero_le g) hb h1 h2 h3
  have h6 := O_int .i64 (xs := sortI xs) (n := xs.length) (v := .slice (some ⟨g, 0, none⟩) xs.length c) (by simpa [nums, sortI] using h5) (sortI_len xs).symm
  exact h6
theorem c_Compact {w : World} {F : List Nat} {g n c : Nat} {xs : List Int} {e : TypeId} (h : oInt.O e w F (.slice (some ⟨g, 0, none⟩) n c) xs) (hl : xs.length ≤ 16777217) :
    Calls Try.prog 104 #[.slice (some ⟨g, 0, none⟩) n c] w fun r w' => r = .returned (.slice (some ⟨g, 0, none⟩) (Lib.compact xs).length c) ∧ Upd w w' F (rw_ oInt e F (.slice (some ⟨g, 0, none⟩) (Lib.compact xs).length c) (Lib.compact xs)) := by
  obtain ⟨rfl, cur, hb, h1, h2, h3, h4, rfl⟩ := row_block h
  refine (Try.slices_Compact_int g 0 c xs w (holds_of_blockI hb h4) (by omega) h1).mono ?_
  rintro r w' ⟨rfl, q, rfl⟩
  have hle := Lib.compact_length_le xs
  have hg := grownBy_sortedI (w := w) (g := g) (n := q) (os := #[]) (Lib.compact xs ++ List.replicate (xs.length - (Lib.compact xs).length) 0).toArray
  have hh := heap_sortedI (n := q) (os := #[]) (Lib.compact xs ++ List.replicate (xs.length - (Lib.compact xs).length) 0).toArray hb
  rw [Go.Sort.grow_empty] at hg hh
  refine ⟨rfl, Chg.of_grown (row := some g) hg, by simp [rw_], fun k hk => .inl hk, lies_row ?_⟩
  have h5 : (Go.Sort.putRow (Value.int .i64) (Go.Sort.ahead w q) g 0 (Lib.compact xs ++ List.replicate (xs.length - (Lib.compact xs).length) 0).toArray).ownsRow 0 e 1 (.slice (some ⟨g, 0, none⟩) (Lib.compact xs).length c) (Lib.compact xs).length ((Lib.compact xs).map (Value.int .i64)) := by
    refine ⟨by simp, .inr ⟨g, c, _, rfl, Nat.zero_le _, hh, by omega, h2, by simp [Go.Sort.putCells, h3], ?_⟩⟩
    have h6 := take_putCellsI cur (Lib.compact xs ++ List.replicate (xs.length - (Lib.compact xs).length) 0) (by simp; omega)
    have h7 := congrArg (List.take (Lib.compact xs).length) h6
    rw [List.take_take, Nat.min_eq_left (by simp)] at h7
    rw [Nat.mul_one, h7]
    simp
  have h6 := O_int .i64 (xs := Lib.compact xs) (n := (Lib.compact xs).length) (v := .slice (some ⟨g, 0, none⟩) (Lib.compact xs).length c) (by simpa [nums] using h5) rfl
  exact h6
end Go.Proofs.Ytlmnmcfieagmbaa.MSort
