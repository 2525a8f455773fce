/- A cache some of whose sectors have been given away. -/
import Derived.Test.YtlmnmcfieagmbaaSepMore
import Derived.Test.YtlmnmcfieagmbaaMVal
namespace Go.Proofs.Ytlmnmcfieagmbaa.MRel
open Go.RowKit Go.Proofs.Ytlmnmcfieagmbaa.RJ Go.Proofs.YtlmnmcfieagmbaaW.PrintWords Go.Proofs.Ytlmnmcfieagmbaa.Fp Go.Proofs.Ytlmnmcfieagmbaa.FpStep Go.Proofs.Ytlmnmcfieagmbaa.MInt Go.Proofs.Ytlmnmcfieagmbaa.MKinds Go.Proofs.Ytlmnmcfieagmbaa.MRead Go.Proofs.Ytlmnmcfieagmbaa.MMake Go.Proofs.Ytlmnmcfieagmbaa.MPut Go.Proofs.Ytlmnmcfieagmbaa.MVal Go.Proofs.Ytlmnmcfieagmbaa.Sep Go.Proofs.Ytlmnmcfieagmbaa.SepStep
set_option linter.unusedVariables false
set_option linter.unusedSimpArgs false
def kU : Kd (Int × Option (List Int)) where
  sz := 2
  E := []
  K := fun _ _ cs => cs.length = 2 ∧ ∀ u ∈ cs, u.oneCell' = true
  M := fun _ _ _ _ cs => cs.length = 2 ∧ ∀ u ∈ cs, u.oneCell' = true
  K_len := fun h => h.1
  K_one := fun h => h.2
  K_below := fun _ h => h
  K_of_M := fun h => h
  M_mono := fun _ h => h
  M_bound := fun h => h
  M_move := fun _ h => h
  M_lower := fun _ h => h
def oWrU : Od (Int × Option (List Int)) where
  sz := 2
  kd := kU
  hsz := rfl
  M := fun w F x cs => ∃ u, cs = [.int .i64 x.1, u] ∧ u.oneCell' = true ∧ match x.2 with
    | some s => oInt.O 3 w F u s
    | none => F = []
  M_K := by
    rintro w F x cs ⟨u, rfl, h1, _⟩
    exact ⟨rfl, by
      intro v hv
      rcases List.mem_cons.1 hv with rfl | hv
      · rfl
      · rcases List.mem_cons.1 hv with rfl | hv
        · exact h1
        · cases hv⟩
  M_move := by
    rintro w w1 F ⟨n, x⟩ cs ⟨u, rfl, h1, h2⟩ hm
    refine ⟨u, rfl, h1, ?_⟩
    cases x with
    | none => exact h2
    | some s => exact O_move h2 hm
  M_lt := by
    rintro w F ⟨n, x⟩ cs ⟨u, rfl, h1, h2⟩ k hk
    cases x with
    | none => simp only at h2; rw [h2] at hk; cases hk
    | some s => exact O_lt h2 k hk
theorem O_map {α β : Type} {d : Od α} {d' : Od β} (f : α → β) (hsz : d'.sz = d.sz) (hM : ∀ (w : World) (F : List Nat) (x : α) (cs : List Value), d.M w F x cs → d'.M w F (f x) cs) {e : TypeId} {w : World} {F : List Nat} {v : Value} {xs : List α} (h : d.O e w F v xs) : d'.O e w F v (xs.map f) := by
  obtain ⟨cs, Fs, hr, hl, rfl, hm⟩ := h
  refine ⟨cs, Fs, by rw [List.length_map, hsz]; exact hr, by rw [List.length_map]; exact hl, rfl, fun j x G hx hG => ?_⟩
  rw [List.getElem?_map] at hx
  obtain ⟨y, hy, rfl⟩ := Option.map_eq_some_iff.1 hx
  rw [hsz]
  exact hM w G y _ (hm j y G hy hG)
theorem lies_U {w : World} {F : List Nat} {v : Value} {l : List (Int × List Int)} {e : TypeId} (h : oWr.O e w F v l) : Lies w (rw_ oWrU e F v (l.map (fun x => (x.1, some x.2)))) := by
  refine lies_row (O_map (d := oWr) (d' := oWrU) (fun x => (x.1, some x.2)) rfl ?_ h)
  rintro w F ⟨n, x⟩ cs ⟨F1, F2, c1, c2, rfl, rfl, ⟨rfl, rfl⟩, u, rfl, hu⟩
  obtain ⟨A, c, rfl, _⟩ := O_reads hu
  exact ⟨_, rfl, rfl, by simpa using hu⟩
/-- An element that lets go what it owns. -/
theorem O_release {α : Type} {d : Od α} {e : TypeId} {w : World} {F : List Nat} {g n cap : Nat} {xs : List α} (h : d.O e w F (.slice (some ⟨g, 0, none⟩) n cap) xs) (hnd : F.Nodup) {i : Nat} {x : α} (hi : xs[i]? = some x) :
    ∃ (c : List Value) (G F' : List Nat), d.M w G x c ∧ G.Nodup ∧ F'.Nodup ∧ (∀ k ∈ G, k ∉ F') ∧ (∀ k ∈ G, k ∈ F) ∧ (∀ k ∈ F', k ∈ F) ∧ (∀ (t : Nat) (u : Value), c[t]? = some u → w.cell? ⟨g, i * d.sz + t, none⟩ = some u) ∧ ∀ y, d.M w [] y c → d.O e w F' (.slice (some ⟨g, 0, none⟩) n cap) (xs.set i y) := by
  obtain ⟨cs, Fs, hr, hl, rfl, hM⟩ := h
  have hn : n = xs.length := by
    rcases hr.2 with ⟨h', _⟩ | ⟨_, _, _, h', _⟩ <;> simp at h'
    exact h'.2.1
  subst hn
  generalize hv : Value.slice (some ⟨g, 0, none⟩) xs.length cap = v at *
  have hil : i < xs.length := (List.getElem?_eq_some_iff.1 hi).1
  have hG := List.getElem?_eq_getElem (show i < Fs.length by omega)
  obtain ⟨G, hG'⟩ : ∃ G, G = Fs[i]'(by omega) := ⟨_, rfl⟩
  rw [← hG'] at hG
  obtain ⟨A, B, rfl, hA⟩ := split_at_ hG
  simp only [List.flatten_append, List.flatten_cons] at hnd
  rw [List.nodup_append, List.nodup_append, List.nodup_append] at hnd
  obtain ⟨nv, ⟨nA, ⟨nG, nB, dGB⟩, dA⟩, dv⟩ := hnd
  refine ⟨seg d.sz i cs, G, v.ownBlock.toList ++ (A ++ [] :: B).flatten, hM i x G hi hG, nG, ?_, ?_, ?_, ?_, ?_, ?_⟩
  · simp only [List.flatten_append, List.flatten_cons, List.nil_append]
    rw [List.nodup_append, List.nodup_append]
    exact ⟨nv, ⟨nA, nB, fun a ha b hb => dA a ha b (List.mem_append_right _ hb)⟩, fun a ha b hb => dv a ha b (by
      rcases List.mem_append.1 hb with hb | hb
      · exact List.mem_append_left _ hb
      · exact List.mem_append_right _ (List.mem_append_right _ hb))⟩
  · intro k hk hk'
    simp only [List.flatten_append, List.flatten_cons, List.nil_append, List.mem_append] at hk'
    rcases hk' with hk' | hk' | hk'
    · exact dv k hk' k (List.mem_append_right _ (List.mem_append_left _ hk)) rfl
    · exact dA k hk' k (List.mem_append_left _ hk) rfl
    · exact dGB k hk k hk' rfl
  · intro k hk; simp [hk]
  · intro k hk
    simp only [List.flatten_append, List.flatten_cons, List.nil_append, List.mem_append] at hk ⊢
    rcases hk with hk | hk | hk
    · exact .inl hk
    · exact .inr (.inl hk)
    · exact .inr (.inr (.inr hk))
  · intro t u hu
    have ht : t < d.sz := by
      have h1 := (List.getElem?_eq_some_iff.1 hu).1
      rw [seg_length hr.1 hil] at h1; exact h1
    rw [seg_get hr.1 hil ht] at hu
    subst hv
    rw [hr.cellAt _ ?_]
    · exact hu
    · have : (i + 1) * d.sz ≤ xs.length * d.sz := Nat.mul_le_mul_right _ hil
      rw [Nat.succ_mul] at this; omega
  · intro y hy
    refine ⟨cs, A ++ [] :: B, by simpa using hr, by simpa using hl, rfl, fun j z H hz hH => ?_⟩
    by_cases hj : j = i
    · subst hj
      rw [List.getElem?_set_self hil] at hz
      have hH' : (A ++ [] :: B)[j]? = some [] := by rw [List.getElem?_append_right (by omega)]; simp [hA]
      rw [hH'] at hH
      cases hz; cases hH
      exact hy
    · rw [List.getElem?_set_ne (Ne.symm hj)] at hz
      rw [get_mid (x := G) (by omega)] at hH
      exact hM j z H hz hH
section
variable {w0 w : World} {S : List Nat} {L : List Res}
/-- A sector is given away. -/
theorem Sep.give {e : TypeId} {F : List Nat} {g q cap : Nat} {es : List (Int × Option (List Int))} (h : Sep w0 S w (rw_ oWrU e F (.slice (some ⟨g, 0, none⟩) q cap) es :: L)) {i : Nat} {n : Int} {s : List Int} (hi : es[i]? = some (n, some s)) :
    ∃ G A c F', w.cell? ⟨g, i * 2, none⟩ = some (.int .i64 n) ∧ w.cell? ⟨g, i * 2 + 1, none⟩ = some (.slice A s.length c) ∧ Sep w0 S w (rw_ oInt 3 G (.slice A s.length c) s :: rw_ oWrU e F' (.slice (some ⟨g, 0, none⟩) q cap) (es.set i (n, none)) :: L) := by
  obtain ⟨c, G, F', ⟨u, rfl, h1, h2⟩, nG, nF', dG, sG, sF', hcell, hput⟩ := O_release (h.get 0 rfl) (h.fnd 0 rfl) hi
  simp only at h2
  obtain ⟨A, c, rfl, _⟩ := O_reads h2
  have h3 := hput (n, none) ⟨_, rfl, rfl, rfl⟩
  have h4 := h.repl 0 rfl (M := [rw_ oInt 3 G (.slice A s.length c) s, rw_ oWrU e F' (.slice (some ⟨g, 0, none⟩) q cap) (es.set i (n, none))]) (Chg.refl _ _) (by
    simp only [fps, List.append_nil]
    exact List.nodup_append.2 ⟨nG, nF', fun a ha b hb e => dG a ha (e ▸ hb)⟩) (by
    intro k hk
    simp only [fps, List.append_nil] at hk
    rcases List.mem_append.1 hk with hk | hk
    · exact .inl (sG k hk)
    · exact .inl (sF' k hk)) (by
    intro r hr
    simp only [List.mem_cons, List.not_mem_nil, or_false] at hr
    rcases hr with rfl | rfl
    · exact lies_row h2
    · exact lies_row h3)
  exact ⟨G, A, c, F', hcell 0 _ rfl, hcell 1 _ rfl, h4⟩
/-- A row of entries as one that may give. -/
theorem Sep.toU {e : TypeId} {F : List Nat} {v : Value} {l : List (Int × List Int)} (h : Sep w0 S w (rw_ oWr e F v l :: L)) : Sep w0 S w (rw_ oWrU e F v (l.map (fun x => (x.1, some x.2))) :: L) :=
  Sep.glue (M := [rw_ oWr e F v l]) h (by simp [fps, rw_]) (lies_U (h.get 0 rfl))
end
end Go.Proofs.Ytlmnmcfieagmbaa.MRel
