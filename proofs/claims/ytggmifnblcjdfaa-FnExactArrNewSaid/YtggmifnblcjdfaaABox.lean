/- Boxes stored whole. Printed by mkanew.py. -/
import Derived.Test.YtggmifnblcjdfaaAArr
import Derived.Laws.Tables
namespace Go.Proofs.Ytggmifnblcjdfaa.ABox
open Go.RowKit Go.Proofs.Ytggmifnblcjdfaa.RJ Go.Proofs.YtggmifnblcjdfaaW.PrintWords Go.Proofs.Ytggmifnblcjdfaa.Fp Go.Proofs.Ytggmifnblcjdfaa.FpStep Go.Proofs.Ytggmifnblcjdfaa.MInt Go.Proofs.Ytggmifnblcjdfaa.MKinds Go.Proofs.Ytggmifnblcjdfaa.MRead Go.Proofs.Ytggmifnblcjdfaa.MMake Go.Proofs.Ytggmifnblcjdfaa.MPut Go.Proofs.Ytggmifnblcjdfaa.MHeld Go.Proofs.Ytggmifnblcjdfaa.Sep Go.Proofs.Ytggmifnblcjdfaa.SepStep Go.Proofs.Ytggmifnblcjdfaa.AKinds Go.Proofs.Ytggmifnblcjdfaa.AMake Go.Proofs.Ytggmifnblcjdfaa.AEnt Go.Proofs.Ytggmifnblcjdfaa.ALaw Go.Proofs.Ytggmifnblcjdfaa.AArr
set_option linter.unusedVariables false
set_option linter.unusedSimpArgs false
/-- A box of thirteen cells stored whole. -/
theorem box13 {w0 w : World} {S : List Nat} {L : List Res} (h : Sep w0 S w L) (i : Nat) {g : Nat} {t : TypeId} {a0 a1 a2 a3 a4 a5 a6 a7 a8 a9 a10 a11 a12 : Value} (hi : L[i]? = some (bx g t #[a0, a1, a2, a3, a4, a5, a6, a7, a8, a9, a10, a11, a12])) (b0 b1 b2 b3 b4 b5 b6 b7 b8 b9 b10 b11 b12 : Value) :
    Sep w0 S (((((((((((((w.setCell ⟨g, 0, none⟩ b0).setCell ⟨g, 1, none⟩ b1).setCell ⟨g, 2, none⟩ b2).setCell ⟨g, 3, none⟩ b3).setCell ⟨g, 4, none⟩ b4).setCell ⟨g, 5, none⟩ b5).setCell ⟨g, 6, none⟩ b6).setCell ⟨g, 7, none⟩ b7).setCell ⟨g, 8, none⟩ b8).setCell ⟨g, 9, none⟩ b9).setCell ⟨g, 10, none⟩ b10).setCell ⟨g, 11, none⟩ b11).setCell ⟨g, 12, none⟩ b12) (L.set i (bx g t #[b0, b1, b2, b3, b4, b5, b6, b7, b8, b9, b10, b11, b12])) := by
  have hl : i < L.length := (List.getElem?_eq_some_iff.1 hi).1
  have h0 := h.setb i (g := g) (t := t) (cs := #[a0, a1, a2, a3, a4, a5, a6, a7, a8, a9, a10, a11, a12]) hi 0 b0 (cs' := #[b0, a1, a2, a3, a4, a5, a6, a7, a8, a9, a10, a11, a12]) rfl
  have h1 := h0.setb i (g := g) (t := t) (cs := #[b0, a1, a2, a3, a4, a5, a6, a7, a8, a9, a10, a11, a12]) (by simp [hl]) 1 b1 (cs' := #[b0, b1, a2, a3, a4, a5, a6, a7, a8, a9, a10, a11, a12]) rfl
  have h2 := h1.setb i (g := g) (t := t) (cs := #[b0, b1, a2, a3, a4, a5, a6, a7, a8, a9, a10, a11, a12]) (by simp [hl]) 2 b2 (cs' := #[b0, b1, b2, a3, a4, a5, a6, a7, a8, a9, a10, a11, a12]) rfl
  have h3 := h2.setb i (g := g) (t := t) (cs := #[b0, b1, b2, a3, a4, a5, a6, a7, a8, a9, a10, a11, a12]) (by simp [hl]) 3 b3 (cs' := #[b0, b1, b2, b3, a4, a5, a6, a7, a8, a9, a10, a11, a12]) rfl
  have h4 := h3.setb i (g := g) (t := t) (cs := #[b0, b1, b2, b3, a4, a5, a6, a7, a8, a9, a10, a11, a12]) (by simp [hl]) 4 b4 (cs' := #[b0, b1, b2, b3, b4, a5, a6, a7, a8, a9, a10, a11, a12]) rfl
  have h5 := h4.setb i (g := g) (t := t) (cs := #[b0, b1, b2, b3, b4, a5, a6, a7, a8, a9, a10, a11, a12]) (by simp [hl]) 5 b5 (cs' := #[b0, b1, b2, b3, b4, b5, a6, a7, a8, a9, a10, a11, a12]) rfl
  have h6 := h5.setb i (g := g) (t := t) (cs := #[b0, b1, b2, b3, b4, b5, a6, a7, a8, a9, a10, a11, a12]) (by simp [hl]) 6 b6 (cs' := #[b0, b1, b2, b3, b4, b5, b6, a7, a8, a9, a10, a11, a12]) rfl
  have h7 := h6.setb i (g := g) (t := t) (cs := #[b0, b1, b2, b3, b4, b5, b6, a7, a8, a9, a10, a11, a12]) (by simp [hl]) 7 b7 (cs' := #[b0, b1, b2, b3, b4, b5, b6, b7, a8, a9, a10, a11, a12]) rfl
  have h8 := h7.setb i (g := g) (t := t) (cs := #[b0, b1, b2, b3, b4, b5, b6, b7, a8, a9, a10, a11, a12]) (by simp [hl]) 8 b8 (cs' := #[b0, b1, b2, b3, b4, b5, b6, b7, b8, a9, a10, a11, a12]) rfl
  have h9 := h8.setb i (g := g) (t := t) (cs := #[b0, b1, b2, b3, b4, b5, b6, b7, b8, a9, a10, a11, a12]) (by simp [hl]) 9 b9 (cs' := #[b0, b1, b2, b3, b4, b5, b6, b7, b8, b9, a10, a11, a12]) rfl
  have h10 := h9.setb i (g := g) (t := t) (cs := #[b0, b1, b2, b3, b4, b5, b6, b7, b8, b9, a10, a11, a12]) (by simp [hl]) 10 b10 (cs' := #[b0, b1, b2, b3, b4, b5, b6, b7, b8, b9, b10, a11, a12]) rfl
  have h11 := h10.setb i (g := g) (t := t) (cs := #[b0, b1, b2, b3, b4, b5, b6, b7, b8, b9, b10, a11, a12]) (by simp [hl]) 11 b11 (cs' := #[b0, b1, b2, b3, b4, b5, b6, b7, b8, b9, b10, b11, a12]) rfl
  have h12 := h11.setb i (g := g) (t := t) (cs := #[b0, b1, b2, b3, b4, b5, b6, b7, b8, b9, b10, b11, a12]) (by simp [hl]) 12 b12 (cs' := #[b0, b1, b2, b3, b4, b5, b6, b7, b8, b9, b10, b11, b12]) rfl
  simpa using h12
theorem rowb {w0 w : World} {S : List Nat} {L : List Res} (h : Sep w0 S w L) (i : Nat) {g : Nat} {t : TypeId} {cs : Array Value} (hi : L[i]? = some (bx g t cs)) (cs' : Array Value) : Sep w0 S (w.setRow g cs') (L.set i (bx g t cs')) :=
  h.upd i hi ⟨⟨rfl, rfl, rfl, by simp, fun k hk hn => setRow_other w g k cs' (by simpa [bx] using hn)⟩, by simp [bx], fun k hk => .inl hk, lies_bx (setRow_heap w g cs cs' t (0, 0) (h.get i hi))⟩
theorem pair2 {w : World} {g : Nat} {t : TypeId} {a0 a1 : Value} (h : w.heap[g]? = some (.cells #[a0, a1] t (0, 0))) : w.cell? ⟨g, 0, none⟩ = some a0 ∧ w.cell? ⟨g, 1, none⟩ = some a1 := ⟨(blk_cell h 0).trans rfl, (blk_cell h 1).trans rfl⟩
end Go.Proofs.Ytggmifnblcjdfaa.ABox
