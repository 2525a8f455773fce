/- append, at a step of a region that draws its order: an owned row grows by an element. -/
import Derived.Test.YtlmnmcfieagmbaaFp
import Derived.Deep.AppendLies
namespace Go.Proofs.Ytlmnmcfieagmbaa.FpStep
open Go.RowKit Go.Proofs.YtlmnmcfieagmbaaW.PrintWords Go.Proofs.Ytlmnmcfieagmbaa.Fp
set_option linter.unusedVariables false
set_option linter.unusedSimpArgs false
section
variable {α : Type} {d : Od α} {e : TypeId} {W w1 : World} {v v1 : Value} {xs : List α} {y : α} {G : List Nat} {cs ys : List Value} {Fs : List (List Nat)}
theorem append_core (hr : W.ownsRow 0 e d.sz v xs.length cs) (hlf : Fs.length = xs.length) (hM : ∀ (j : Nat) (x : α) (G : List Nat), xs[j]? = some x → Fs[j]? = some G → d.M W G x (seg d.sz j cs))
    (hnd : (v.ownBlock.toList ++ Fs.flatten).Nodup) (hy : d.M W G y ys) (nG : G.Nodup) (dG : ∀ k ∈ G, k ∉ v.ownBlock.toList ++ Fs.flatten)
    (hown : w1.ownsRow 0 e d.sz v1 (xs.length + 1) (cs ++ ys)) (hg : W.grownBy w1 v.ownBlock) (hat : v1.ownBlock = v.ownBlock ∨ ∃ b, v1.ownBlock = some b ∧ W.heap.size ≤ b) :
    ∃ F1, d.O e w1 F1 v1 (xs ++ [y]) ∧ F1.Nodup ∧ (∀ k ∈ F1, k ∈ v.ownBlock.toList ++ Fs.flatten ∨ k ∈ G ∨ W.heap.size ≤ k) ∧ Chg (v.ownBlock.toList ++ Fs.flatten) W w1 := by
  have HO : d.O e W (v.ownBlock.toList ++ Fs.flatten) v xs := ⟨cs, Fs, hr, hlf, rfl, hM⟩
  have hmem := mem_own HO
  have hltF := O_lt HO
  have hltG := d.M_lt hy
  rw [List.nodup_append] at hnd
  obtain ⟨_, nF, dO⟩ := hnd
  have hmv : ∀ k, k < W.heap.size → v.ownBlock ≠ some k → w1.heap[k]? = W.heap[k]? := fun k hk hne => hg.block k hk (fun e => hne e.symm)
  refine ⟨v1.ownBlock.toList ++ (Fs ++ [G]).flatten, ⟨cs ++ ys, Fs ++ [G], by simpa using hown, by simp [hlf], rfl, fun j z' H hz' hH => ?_⟩, ?_, (fun k hk => ?_), ((Chg.of_grown hg).mono (fun k hk => List.mem_append_left _ hk))⟩
  · rcases Nat.lt_or_ge j xs.length with hj | hj
    · rw [List.getElem?_append_left hj] at hz'
      rw [List.getElem?_append_left (by omega)] at hH
      have e1 : seg d.sz j (cs ++ ys) = seg d.sz j cs := by
        unfold seg
        have h1 : (j + 1) * d.sz ≤ xs.length * d.sz := Nat.mul_le_mul_right _ hj
        rw [Nat.succ_mul] at h1
        have h2 := hr.1
        rw [List.drop_append_of_le_length (by omega), List.take_append_of_le_length (by rw [List.length_drop]; omega)]
      rw [e1]
      refine d.M_move (hM j z' H hz' hH) (fun k hk => hmv k (d.M_lt (hM j z' H hz' hH) k hk) (fun e2 => ?_))
      exact dO k (by rw [e2]; simp) k (List.mem_flatten.2 ⟨H, List.mem_of_getElem? hH, hk⟩) rfl
    · have hj' : j = xs.length := by
        have := (List.getElem?_eq_some_iff.1 hz').1
        simp at this; omega
      subst hj'
      have e1 : y = z' := by simpa using hz'
      have e2 : G = H := by rw [← hlf] at hH; simpa using hH
      subst e1 e2
      have e3 : seg d.sz xs.length (cs ++ ys) = ys := by
        unfold seg
        rw [← hr.1, List.drop_left, List.take_of_length_le (by rw [d.M_len hy]; exact Nat.le_refl _)]
      rw [e3]
      exact d.M_move hy (fun k hk => hmv k (hltG k hk) (fun e2 => dG k hk (by rw [e2]; simp)))
  · rw [List.flatten_append, List.flatten_cons, List.flatten_nil, List.append_nil, List.nodup_append, List.nodup_append]
    have hv1 : ∀ k, k ∈ v1.ownBlock.toList → v.ownBlock = some k ∨ W.heap.size ≤ k := by
      intro k hk
      have hk' : v1.ownBlock = some k := by simpa using hk
      rcases hat with hat | ⟨b, hb, hge⟩
      · exact .inl (by rw [← hat]; exact hk')
      · rw [hb] at hk'; cases hk'; exact .inr hge
    refine ⟨by cases v1.ownBlock <;> simp, ⟨nF, nG, fun a ha b hb e => dG b hb (by rw [← e]; exact List.mem_append_right _ ha)⟩, fun a ha b hb e => ?_⟩
    subst e
    rcases hv1 a ha with h1 | h1
    · rcases List.mem_append.1 hb with hb | hb
      · exact dO a (by rw [h1]; simp) a hb rfl
      · exact dG a hb (by rw [h1]; simp)
    · rcases List.mem_append.1 hb with hb | hb
      · have := hltF a (List.mem_append_right _ hb); omega
      · have := hltG a hb; omega
  · rcases List.mem_append.1 hk with hk | hk
    · have hk' : v1.ownBlock = some k := by simpa using hk
      rcases hat with hat | ⟨b, hb, hge⟩
      · exact .inl (hmem k (by rw [← hat]; exact hk'))
      · rw [hb] at hk'; cases hk'; exact .inr (.inr hge)
    · rw [List.flatten_append, List.flatten_cons, List.flatten_nil, List.append_nil] at hk
      rcases List.mem_append.1 hk with hk | hk
      · exact .inl (List.mem_append_right _ hk)
      · exact .inr (.inl hk)
end
/-- A law over a list of operations, at a step of a region that draws its order. -/
theorem step_of_list {P : Program} {ops : Array Oper} {o : Oper} {a : Act} {K : Act → World → Prop} {Q : Exit → Act → World → Prop} {E : Prop} {W : World} (hgd : o.guard = none)
    (h : ∀ Q' : Exit → Act → World → Prop, (∀ a w, K a w → Q' .normal a w) → wpList P ops Q' [o] a W) : if Region.wanted o (yielded ops a.tmps) = true then Oper.wp P o a W K Q else E := by
  have hw : Region.wanted o (yielded ops a.tmps) = true := by simp [Region.wanted, hgd]
  rw [if_pos hw]
  have h1 := h (fun e a w => match e with | .normal => K a w | .panic c => Q (.panic c) a w | _ => False) (fun _ _ h => h)
  simp only [wpList, hw, if_true] at h1
  rcases h1 with h1 | ⟨_, a', w', h1⟩
  · unfold Oper.wp at *
    generalize (execOp a.eval o).run P W = r at *
    cases r with
    | ok n w' =>
      cases n <;> simp only [Oper.upon] at h1 ⊢ <;>
        first
          | exact h1
          | exact Calls.mono h1 (fun e w'' he => by
              cases e
              · exact he
              · exact he
              · obtain ⟨_, _, h2⟩ := he; exact h2.elim)
    | halt x w' => cases x <;> simp only [Oper.upon] at h1 ⊢ <;> exact h1
  · exact h1.elim
/-- append(v, y), y laid in a block of its own ahead, at a step of a region that draws its order; Wd: the world at hand. -/
theorem step_append_O {α : Type} (d : Od α) {P : Program} {ops : Array Oper} {o : Oper} {a : Act} {K : Act → World → Prop} {Q : Exit → Act → World → Prop} {E : Prop} {Wd : World} (W : World) (nd : Nat)
    (hgd : o.guard = none) (s x : Operand) (t e : TypeId) (z : Value) (bytes : Nat)
    (ho : o.op = .call { callee := .builtin .append, args := #[s, x], argTypes := #[t, t] })
    (ht : P.underlying t = some (.slice e)) (hinfo : (P.info? e).map (fun i => (i.zero, i.size, i.bytes)) = some (some z, d.sz, bytes)) (hz : z.cells.size = d.sz) (hs0 : 0 < d.sz) (hb0 : 0 < bytes)
    (v : Value) (xs : List α) (F : List Nat) (y : α) (G : List Nat) (ys : List Value) (hW : Wd = (W.alloc (.cells ys.toArray e)).drewN nd) (hs : a.eval s = v) (hx : a.eval x = .slice (some ⟨W.heap.size, 0, none⟩) 1 1)
    (HO : d.O e W F v xs) (hnd : F.Nodup) (hy : d.M W G y ys) (nG : G.Nodup) (dG : ∀ k ∈ G, k ∉ F) (hl : (xs.length + 1) * bytes ≤ 140737488355328)
    (h : ∀ g cap w1 F1, d.O e w1 F1 (.slice (some ⟨g, 0, none⟩) (xs.length + 1) cap) (xs ++ [y]) → F1.Nodup → (∀ k ∈ F1, k ∈ F ∨ k ∈ G ∨ W.heap.size ≤ k) → Chg F W w1 → K (a.put o.dst (.slice (some ⟨g, 0, none⟩) (xs.length + 1) cap)) w1) :
    if Region.wanted o (yielded ops a.tmps) = true then Oper.wp P o a Wd K Q else E := by
  subst hW
  obtain ⟨cs, Fs, hr, hlf, rfl, hM⟩ := HO
  obtain ⟨i0, hi, hzz⟩ := Option.map_eq_some_iff.1 hinfo
  simp only [Prod.mk.injEq] at hzz
  obtain ⟨hz0, hz1, hz2⟩ := hzz
  have hlen : xs.length + 1 ≤ 140737488355328 := Nat.le_trans (Nat.le_mul_of_pos_right _ hb0) hl
  have hown0 : ((W.alloc (.cells ys.toArray e)).drewN nd).ownsRow 0 e d.sz v xs.length cs := hr.alloc _
  refine step_append_lies ((W.alloc (.cells ys.toArray e)).drewN nd) hgd s x t ho 0 e i0 z d.sz bytes ht hi hz0 hz1 hz2 hz hs0 v xs.length cs hs hown0 ⟨W.heap.size, 0, none⟩ 1 1 ys hx (by rw [d.M_len hy]; simp)
    (by
      have := World.news_of_block (w := (W.alloc (.cells ys.toArray e)).drewN nd) (cs := ys.toArray) (t := e) (fr := (0, 0)) (B := W.heap.size) (heap_alloc_new W (.cells ys.toArray e))
      simpa using this) (d.M_one hy) (by omega) (by simp only [maxLen]; omega) hl (Nat.zero_le _) _ rfl ?_
  intro g cap w1 hown hg hat _
  have hg2 : W.grownBy w1 v.ownBlock := World.grownBy.trans (World.grownBy_alloc W _ _) ⟨hg.os, hg.tape, hg.output, hg.size, hg.block⟩
  obtain ⟨F1, k1, k2, k3, k4⟩ := append_core hr hlf hM hnd hy nG dG hown hg2 (by
    rcases hat with hat | hat
    · exact .inl hat.symm
    · exact .inr ⟨g, rfl, by rw [hat]; simp⟩)
  exact h g cap w1 F1 k1 k2 k3 k4
end Go.Proofs.Ytlmnmcfieagmbaa.FpStep
