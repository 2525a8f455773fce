/- Own text: ABun3. -/
import Derived.Test.YtggmifnblcjdfaaGreatXB2
import Derived.Test.YtggmifnblcjdfaaGreatXB3
import Derived.Test.YtggmifnblcjdfaaGreatXB4
import Derived.Laws.BitsLemmas
import Derived.Test.YtggmifnblcjdfaaGreatXAOkI
set_option linter.unusedVariables false
set_option linter.unusedSimpArgs false
namespace Go.Proofs.YtggmifnblcjdfaaGreat
namespace MRel
open Go.RowKit RJ Go.Proofs.YtggmifnblcjdfaaGreatW.PrintWords Fp FpStep MInt MKinds MRead MMake MPut MVal Go.Proofs.YtggmifnblcjdfaaGreat.Sep SepStep
def kU : Kd (Int × Option (List Int)) where
 sz := 2
 E := []
 K := fun _ _ cs => cs.length = 2 ∧ ∀ u ∈ cs, u.oneCell' = true
 M := fun _ _ _ _ cs => cs.length = 2 ∧ ∀ u ∈ cs, u.oneCell' = true
 K_len := fun h => h.1
 K_one := fun h => h.2
 K_below := fun _ h => h
 K_of_M := fun h => h
 M_mono := fun _ h => h
 M_bound := fun h => h
 M_move := fun _ h => h
 M_lower := fun _ h => h
def oWrU : Od (Int × Option (List Int)) where
 sz := 2
 kd := kU
 hsz := rfl
 M := fun w F x cs => ∃ u, cs = [.int .i64 x.1, u] ∧ u.oneCell' = true ∧ match x.2 with
  | some s => oInt.O 3 w F u s
  | none => F = []
 M_K := by
  rintro w F x cs ⟨u, rfl, h1, _⟩
  exact ⟨rfl, by
   intro v hv
   rcases List.mem_cons.1 hv with rfl | hv
   ·rfl
   ·rcases List.mem_cons.1 hv with rfl | hv
    ·exact h1
    ·cases hv⟩
 M_move := by
  rintro w w1 F ⟨n, x⟩ cs ⟨u, rfl, h1, h2⟩ hm
  refine ⟨u, rfl, h1, ?_⟩
  cases x with
  | none => exact h2
  | some s => exact O_move h2 hm
 M_lt := by
  rintro w F ⟨n, x⟩ cs ⟨u, rfl, h1, h2⟩ k hk
  cases x with
  | none => simp only at h2; rw [h2] at hk; cases hk
  | some s => exact O_lt h2 k hk
theorem O_map {α β : Type} {d : Od α} {d' : Od β} (f : α → β) (hsz : d'.sz = d.sz) (hM : ∀ (w : World) (F : List Nat) (x : α) (cs : List Value), d.M w F x cs → d'.M w F (f x) cs) {e : TypeId} {w : World} {F : List Nat} {v : Value} {xs : List α} (h : d.O e w F v xs) : d'.O e w F v (xs.map f) := by
 obtain ⟨cs, Fs, hr, hl, rfl, hm⟩ := h
 refine ⟨cs, Fs, by rw [List.length_map, hsz]; exact hr, by rw [List.length_map]; exact hl, rfl, fun j x G hx hG => ?_⟩
 rw [List.getElem?_map] at hx
 obtain ⟨y, hy, rfl⟩ := Option.map_eq_some_iff.1 hx
 rw [hsz]
 exact hM w G y _ (hm j y G hy hG)
theorem lies_U {w : World} {F : List Nat} {v : Value} {l : List (Int × List Int)} {e : TypeId} (h : oWr.O e w F v l) : Lies w (rw_ oWrU e F v (l.map (fun x => (x.1, some x.2)))) := by
 refine lies_row (O_map (d := oWr) (d' := oWrU) (fun x => (x.1, some x.2)) rfl ?_ h)
 rintro w F ⟨n, x⟩ cs ⟨F1, F2, c1, c2, rfl, rfl, ⟨rfl, rfl⟩, u, rfl, hu⟩
 obtain ⟨A, c, rfl, _⟩ := O_reads hu
 exact ⟨_, rfl, rfl, by simpa using hu⟩
theorem O_release {α : Type} {d : Od α} {e : TypeId} {w : World} {F : List Nat} {g n cap : Nat} {xs : List α} (h : d.O e w F (.slice (some ⟨g, 0, none⟩) n cap) xs) (hnd : F.Nodup) {i : Nat} {x : α} (hi : xs[i]? = some x) :
  ∃ (c : List Value) (G F' : List Nat), d.M w G x c ∧ G.Nodup ∧ F'.Nodup ∧ (∀ k ∈ G, k ∉ F') ∧ (∀ k ∈ G, k ∈ F) ∧ (∀ k ∈ F', k ∈ F) ∧ (∀ (t : Nat) (u : Value), c[t]? = some u → w.cell? ⟨g, i * d.sz + t, none⟩ = some u) ∧ ∀ y, d.M w [] y c → d.O e w F' (.slice (some ⟨g, 0, none⟩) n cap) (xs.set i y) := by
 obtain ⟨cs, Fs, hr, hl, rfl, hM⟩ := h
 have hn : n = xs.length := by
  rcases hr.2 with ⟨h', _⟩ | ⟨_, _, _, h', _⟩ <;> simp at h'
  exact h'.2.1
 subst hn
 generalize hv : Value.slice (some ⟨g, 0, none⟩) xs.length cap = v at *
 have hil : i < xs.length := (List.getElem?_eq_some_iff.1 hi).1
 have hG := List.getElem?_eq_getElem (show i < Fs.length by omega)
 obtain ⟨G, hG'⟩ : ∃ G, G = Fs[i]'(by omega) := ⟨_, rfl⟩
 rw [← hG'] at hG
 obtain ⟨A, B, rfl, hA⟩ := split_at_ hG
 simp only [List.flatten_append, List.flatten_cons] at hnd
 rw [List.nodup_append, List.nodup_append, List.nodup_append] at hnd
 obtain ⟨nv, ⟨nA, ⟨nG, nB, dGB⟩, dA⟩, dv⟩ := hnd
 refine ⟨seg d.sz i cs, G, v.ownBlock.toList ++ (A ++ [] :: B).flatten, hM i x G hi hG, nG, ?_, ?_, ?_, ?_, ?_, ?_⟩
 ·simp only [List.flatten_append, List.flatten_cons, List.nil_append]
  rw [List.nodup_append, List.nodup_append]
  exact ⟨nv, ⟨nA, nB, fun a ha b hb => dA a ha b (List.mem_append_right _ hb)⟩, fun a ha b hb => dv a ha b (by
   rcases List.mem_append.1 hb with hb | hb
   ·exact List.mem_append_left _ hb
   ·exact List.mem_append_right _ (List.mem_append_right _ hb))⟩
 ·intro k hk hk'
  simp only [List.flatten_append, List.flatten_cons, List.nil_append, List.mem_append] at hk'
  rcases hk' with hk' | hk' | hk'
  ·exact dv k hk' k (List.mem_append_right _ (List.mem_append_left _ hk)) rfl
  ·exact dA k hk' k (List.mem_append_left _ hk) rfl
  ·exact dGB k hk k hk' rfl
 ·intro k hk; simp [hk]
 ·intro k hk
  simp only [List.flatten_append, List.flatten_cons, List.nil_append, List.mem_append] at hk ⊢
  rcases hk with hk | hk | hk
  ·exact .inl hk
  ·exact .inr (.inl hk)
  ·exact .inr (.inr (.inr hk))
 ·intro t u hu
  have ht : t < d.sz := by
   have h1 := (List.getElem?_eq_some_iff.1 hu).1
   rw [seg_length hr.1 hil] at h1; exact h1
  rw [seg_get hr.1 hil ht] at hu
  subst hv
  rw [hr.cellAt _ ?_]
  ·exact hu
  ·have : (i + 1) * d.sz ≤ xs.length * d.sz := Nat.mul_le_mul_right _ hil
   rw [Nat.succ_mul] at this; omega
 ·intro y hy
  refine ⟨cs, A ++ [] :: B, by simpa using hr, by simpa using hl, rfl, fun j z H hz hH => ?_⟩
  by_cases hj : j = i
  ·subst hj
   rw [List.getElem?_set_self hil] at hz
   have hH' : (A ++ [] :: B)[j]? = some [] := by rw [List.getElem?_append_right (by omega)]; simp [hA]
   rw [hH'] at hH
   cases hz; cases hH
   exact hy
  ·rw [List.getElem?_set_ne (Ne.symm hj)] at hz
   rw [get_mid (x := G) (by omega)] at hH
   exact hM j z H hz hH
section
variable {w0 w : World} {S : List Nat} {L : List Res}
theorem Sep.give {e : TypeId} {F : List Nat} {g q cap : Nat} {es : List (Int × Option (List Int))} (h : Sep w0 S w (rw_ oWrU e F (.slice (some ⟨g, 0, none⟩) q cap) es :: L)) {i : Nat} {n : Int} {s : List Int} (hi : es[i]? = some (n, some s)) :
  ∃ G A c F', w.cell? ⟨g, i * 2, none⟩ = some (.int .i64 n) ∧ w.cell? ⟨g, i * 2 + 1, none⟩ = some (.slice A s.length c) ∧ Sep w0 S w (rw_ oInt 3 G (.slice A s.length c) s :: rw_ oWrU e F' (.slice (some ⟨g, 0, none⟩) q cap) (es.set i (n, none)) :: L) := by
 obtain ⟨c, G, F', ⟨u, rfl, h1, h2⟩, nG, nF', dG, sG, sF', hcell, hput⟩ := O_release (h.get 0 rfl) (h.fnd 0 rfl) hi
 simp only at h2
 obtain ⟨A, c, rfl, _⟩ := O_reads h2
 have h3 := hput (n, none) ⟨_, rfl, rfl, rfl⟩
 have h4 := h.repl 0 rfl (M := [rw_ oInt 3 G (.slice A s.length c) s, rw_ oWrU e F' (.slice (some ⟨g, 0, none⟩) q cap) (es.set i (n, none))]) (Chg.refl _ _) (by
  simp only [fps, List.append_nil]
  exact List.nodup_append.2 ⟨nG, nF', fun a ha b hb e => dG a ha (e ▸ hb)⟩) (by
  intro k hk
  simp only [fps, List.append_nil] at hk
  rcases List.mem_append.1 hk with hk | hk
  ·exact .inl (sG k hk)
  ·exact .inl (sF' k hk)) (by
  intro r hr
  simp only [List.mem_cons, List.not_mem_nil, or_false] at hr
  rcases hr with rfl | rfl
  ·exact lies_row h2
  ·exact lies_row h3)
 exact ⟨G, A, c, F', hcell 0 _ rfl, hcell 1 _ rfl, h4⟩
theorem Sep.toU {e : TypeId} {F : List Nat} {v : Value} {l : List (Int × List Int)} (h : Sep w0 S w (rw_ oWr e F v l :: L)) : Sep w0 S w (rw_ oWrU e F v (l.map (fun x => (x.1, some x.2))) :: L) :=
 Sep.glue (M := [rw_ oWr e F v l]) h (by simp [fps, rw_]) (lies_U (h.get 0 rfl))
end
end MRel
namespace MFlush
open Go.RowKit RJ Go.Proofs.YtggmifnblcjdfaaGreatW.PrintWords Fp FpStep MInt MKinds MRead MMake MPut MOk MVal Go.Proofs.YtggmifnblcjdfaaGreat.Sep SepStep MCopy MCopyS
attribute [local go_sem ↓] Go.wp_at_zero Go.wp_at_succ
set_option maxHeartbeats 4000000 in
set_option maxRecDepth 100000 in
theorem c_implFlushMem {w : World} {v : Value} {m : MemV} (h : MemR w v m) (hs : Small m) :
  Calls Tryz.prog 103 #[v] w fun e w' => ∃ u F, e = .returned u ∧ New w w' (me F u (flushV m)) := by
 have H := Aside0.mk h
 obtain ⟨s, c, b, rfl, r1, r2, r3⟩ := h
 have H2 := Aside0.mk r2
 obtain ⟨A1, c1, rfl, _⟩ := r1
 obtain ⟨A2, c2, rfl, _⟩ := r2
 obtain ⟨A3, c3, rfl, _⟩ := r3
 have hb1 := hs.1
 have hb2 := hs.2.2.1
 have HS := Aside0.mk hs
 clear hs
 generalize hmf : m.failed = mf at H
 have Hmf := Aside0.mk hmf
 clear hmf
 go_enter Tryz.func103, Tryz.ntmps103
 go_upto_region 2 with (first
  | (go_at_call 125; refine (c_copyMem (MemR_below H.out (below_alloc (below_alloc (Below.refl _ _) _) _)) HS.out).mono ?_; rintro e w1 ⟨u, F, rfl, hn⟩; obtain ⟨B1, d1, B2, d2, B3, d3, F1, F2, F3, rfl, h1⟩ := ((((Sep.start w []).alloc (g := w.heap.size) rfl #[.slice A1 m.secs.length c1, .slice A2 m.cache.length c2, .bool mf, .slice A3 m.bad.length c3] 89).alloc (g := w.heap.size + 1) (by simp) #[.slice none 0 0, .slice none 0 0, .bool false, .slice none 0 0] 89).new hn).ofMem; rw [Hmf.out]; have HS1 := Aside0.mk (h1.alloc (g := w1.heap.size) rfl #[.slice B1 m.secs.length d1, .slice B2 m.cache.length d2, .bool mf, .slice B3 m.bad.length d3] 89); clear hn h1)
  | fail)
 generalize hg : w1.heap.size = g at *
 generalize hw2 : w1.alloc (.cells #[.slice B1 m.secs.length d1, .slice B2 m.cache.length d2, .bool mf, .slice B3 m.bad.length d3] 89 (0, 0)) = w2 at *
 clear hg hw2
 obtain ⟨k1, k2, k3, k4⟩ := four (HS1.out.get 5 rfl)
 go_cut [14] (fun s14 wx => s14 = .bool (!(memB m && !m.failed)) ∧ Aside0 (Sep w [] wx [bx g 89 #[.slice B1 m.secs.length d1, .slice B2 m.cache.length d2, .bool mf, .slice B3 m.bad.length d3], rw_ oSec 28 F1 (.slice B1 m.secs.length d1) (m.secs), rw_ oWr 126 F2 (.slice B2 m.cache.length d2) m.cache, rw_ oInt 3 F3 (.slice B3 m.bad.length d3) m.bad, bx (w.heap.size + 1) 89 #[.slice none 0 0, .slice none 0 0, .bool false, .slice none 0 0], bx w.heap.size 89 #[.slice A1 m.secs.length c1, .slice A2 m.cache.length c2, .bool mf, .slice A3 m.bad.length c3]]))
 case first =>
  have hk := Hmf.out
  by_cases hA : memB m = true
  ·have hcan : (!(memB m && !m.failed)) = mf := by rw [hA, hk]; simp
   have Hcan := Aside0.mk hcan
   clear hcan hk
   cases mf
   ·go_wp2_with (first
     | (go_at_call 81; refine (c_implMemOk (MemR_below H.out HS1.out.toBelow)).mono ?_; rintro e w3 ⟨rfl, hb⟩; have HS2 := Aside0.mk (HS1.out.below hb); clear hb k1 k2 k3 k4; obtain ⟨k1, k2, k3, k4⟩ := four (HS2.out.get 5 rfl))
     | fail)
    go_meet
    exact ⟨by rw [Hcan.out], HS2⟩
   ·go_wp2_with (first
     | (go_at_call 81; refine (c_implMemOk (MemR_below H.out HS1.out.toBelow)).mono ?_; rintro e w3 ⟨rfl, hb⟩; have HS2 := Aside0.mk (HS1.out.below hb); clear hb k1 k2 k3 k4; obtain ⟨k1, k2, k3, k4⟩ := four (HS2.out.get 5 rfl))
     | fail)
    go_meet
    exact ⟨by rw [Hcan.out], HS2⟩
  ·simp only [Bool.not_eq_true] at hA
   have hcan : (!(memB m && !m.failed)) = true := by rw [hA]; rfl
   have Hcan := Aside0.mk hcan
   clear hcan hk
   go_wp2_with (first
    | (go_at_call 81; refine (c_implMemOk (MemR_below H.out HS1.out.toBelow)).mono ?_; rintro e w3 ⟨rfl, hb⟩; have HS2 := Aside0.mk (HS1.out.below hb); clear hb k1 k2 k3 k4; obtain ⟨k1, k2, k3, k4⟩ := four (HS2.out.get 5 rfl))
    | fail)
   go_meet
   exact ⟨by rw [Hcan.out], HS2⟩
 case rest =>
  obtain ⟨rfl, HB⟩ := hcut
  clear k1 k2 k3 k4 HS1
  by_cases hcan : (memB m && !m.failed) = true
  ·have hc2 : (!(memB m && !m.failed)) = false := by rw [hcan]; rfl
   rw [hc2]
   have hval : flushV m = ⟨m.cache.foldl putW m.secs, [], m.failed, m.bad⟩ := by unfold flushV; rw [if_pos hcan]
   obtain ⟨hp1, hp2, hp3, hp4, hp5⟩ := memB_parts (m := m) (by simp at hcan; exact hcan.1)
   have Hval := Aside0.mk hval
   have Hp2 := Aside0.mk hp2
   have hl1 := hp4.1
   clear hcan hval hp1 hp2 hp3 hp4 hp5 hc2
   obtain ⟨gs, capS, hB1, _, _⟩ := O_form (show oSec.O 28 wc F1 (.slice B1 m.secs.length d1) m.secs from HB.out.get 1 rfl) (by omega)
   cases hB1
   obtain ⟨k1, k2, k3, k4⟩ := four (HB.out.get 5 rfl)
   go_wp2
   go_loopw [19] (fun v19 wr => ∃ i : Nat, i ≤ m.cache.length ∧ v19 = .int .i64 i ∧ ∃ F : List Nat, Aside0 (Sep w [] wr [bx g 89 #[.slice (some ⟨gs, 0, none⟩) m.secs.length d1, .slice B2 m.cache.length d2, .bool mf, .slice B3 m.bad.length d3], rw_ oSec 28 F (.slice (some ⟨gs, 0, none⟩) m.secs.length d1) ((m.cache.take i).foldl putW m.secs), rw_ oWr 126 F2 (.slice B2 m.cache.length d2) m.cache, rw_ oInt 3 F3 (.slice B3 m.bad.length d3) m.bad, bx (w.heap.size + 1) 89 #[.slice none 0 0, .slice none 0 0, .bool false, .slice none 0 0], bx w.heap.size 89 #[.slice A1 m.secs.length c1, .slice A2 m.cache.length c2, .bool mf, .slice A3 m.bad.length c3]])) (fun v19 _ => m.cache.length - (intOf v19).toNat)
   case atStart => exact ⟨0, by omega, rfl, F1, HB⟩
   case round =>
    obtain ⟨i, hi, rfl, F, HR⟩ := hrel
    clear k1 k2 k3 k4
    by_cases hlt : i < m.cache.length
    ·obtain ⟨⟨xn, x⟩, hxi⟩ : ∃ x, m.cache[i]? = some x := ⟨_, List.getElem?_eq_getElem hlt⟩
     obtain ⟨ad, cap, ha, hc⟩ := RK_wrs H2.out (by omega)
     cases ha
     obtain ⟨u, cn0, cu0, ru⟩ := hc i _ hxi
     obtain ⟨A6, c6, rfl, _⟩ := id ru
     obtain ⟨q, hq, hql, _⟩ := wrB_at (Hp2.out _ (List.mem_of_getElem? hxi))
     simp only at hq
     subst hq
     have Ru := Aside0.mk ru
     have cn := HR.out.old cn0
     have cu := HR.out.old cu0
     have hxl := HS.out.2.2.2.1 _ (List.mem_of_getElem? hxi)
     have Hxi := Aside0.mk hxi
     clear hc ru hxi cn0 cu0
     go_wp2
     have hB := HR.out.alloc rfl #[.int .i64 (q : Int), .slice A6 x.length c6] 126
     generalize hgb : wr.heap.size = gb at *
     generalize hwb : wr.alloc (.cells #[.int .i64 (q : Int), .slice A6 x.length c6] 126 (0, 0)) = wb at *
     have HB2 := Aside0.mk hB
     clear hB hgb hwb cn cu
     have p1 := (four (HB2.out.get 1 rfl)).1
     obtain ⟨q1, q2⟩ := two (HB2.out.get 0 rfl)
     have q0 : (0 : Int) ≤ (q : Int) := by omega
     have ql : (q : Int) < (m.secs.length : Int) := by omega
     refine wp_region_seq (fun w' => w'.cell? ⟨g, 0, none⟩ = some (.slice (some ⟨gs, 0, none⟩) m.secs.length d1) ∧ w'.cell? ⟨gb, 0, none⟩ = some (.int .i64 (q : Int)) ∧ w'.cell? ⟨gb, 1, none⟩ = some (.slice A6 x.length c6)) [8] [(0, true), (1, true), (2, true), (3, true), (4, true), (5, true), (6, false), (7, true), (8, false)] (by kernel_rfl) (by kernel_rfl) ?_
     have hS : (fun w' : World => w'.cell? ⟨g, 0, none⟩ = some (.slice (some ⟨gs, 0, none⟩) m.secs.length d1) ∧ w'.cell? ⟨gb, 0, none⟩ = some (.int .i64 (q : Int)) ∧ w'.cell? ⟨gb, 1, none⟩ = some (.slice A6 x.length c6)) wb.drew := ⟨p1, q1, q2⟩
     iterate 6 (refine seq_take hS rfl (fun _ _ _ h => h) (by rfl) (fun w_ hSw => by (try dsimp only at hSw); go_simp; first | done | with_reducible rfl) ?_; (try simp only [Act.put, qqP]))
     refine seq_step rfl (fun K hK => ?_)
     go_simp
     go_at_call 75; refine (c_copyInts (HB2.out.drew.rk Ru.out) hxl).mono ?_; rintro e w3 ⟨u1, K_, rfl, hu, hG, hb⟩
     have HS1 := Aside0.mk (HB2.out.drew.new (new_row hu hG hb)); obtain ⟨A5, c5, rfl, hzz⟩ := O_RK hu; have HU := Aside0.mk hu; clear hzz hu hG hb p1 q1 q2 hS
     have p1 := (four (HS1.out.get 2 rfl)).1
     obtain ⟨q1, q2⟩ := two (HS1.out.get 1 rfl)
     have hS : (fun w' : World => w'.cell? ⟨g, 0, none⟩ = some (.slice (some ⟨gs, 0, none⟩) m.secs.length d1) ∧ w'.cell? ⟨gb, 0, none⟩ = some (.int .i64 (q : Int)) ∧ w'.cell? ⟨gb, 1, none⟩ = some (.slice A6 x.length c6)) w3 := ⟨p1, q1, q2⟩
     refine hK.out _ _ ⟨fun _ => hS, ?_⟩; clear hK K; (try simp only [Act.put, qqP])
     iterate 1 (refine seq_take hS rfl (fun _ _ _ h => h) (by rfl) (fun w_ hSw => by (try dsimp only at hSw); go_simp; first | done | with_reducible rfl) ?_; (try simp only [Act.put, qqP]))
     have hlen : q < ((m.cache.take i).foldl putW m.secs).length := by rw [foldPut_len]; omega
     obtain ⟨uu, cc1, cc2⟩ := O_cells (d := oSec) (t := 0) (HS1.out.get 3 rfl) hlen (by decide)
     simp only [show oSec.sz = 1 from rfl, Nat.mul_one, Nat.add_zero] at cc1 cc2
     refine seq_step rfl (fun K hK => ?_)
     go_simp
     refine hK.out _ _ ⟨(fun h => (by cases h)), ?_⟩; clear hK K; (try simp only [Act.put, qqP])
     refine seq_done ?_
     go_wp2
     go_roundw
     case rel =>
      obtain ⟨F', hput⟩ := Sep.put (d := oSec) (i := q) (y := x) (us := [.slice A5 x.length c5]) (HS1.out.sel [3, 0, 1, 2, 4, 5, 6, 7] (by decide) (by simp)) hlen ⟨_, rfl, HU.out⟩
      refine ⟨i + 1, by omega, by go_num, F', ⟨?_⟩⟩
      rw [take_snoc Hxi.out, foldPut_snoc]
      have h8 := hput.sel [2, 0, 3, 4, 5, 6] (by decide) (by simp)
      simp only [show oSec.sz = 1 from rfl, Nat.mul_one] at h8
      exact h8
     case measure => simp [intOf]; omega
    ·obtain rfl : i = m.cache.length := by omega
     rw [List.take_length] at HR
     obtain ⟨k1, k2, k3, k4⟩ := four (HR.out.get 0 rfl)
     obtain ⟨z1, z2, z3, z4⟩ := four (HR.out.get 4 rfl)
     have fk := blk_frozen (HR.out.get 0 rfl)
     have fz := blk_frozen (HR.out.get 4 rfl)
     have hgr : g ≠ w.heap.size + 1 := HR.out.neq 0 4 rfl rfl (by decide)
     have hrg : w.heap.size + 1 ≠ g := Ne.symm hgr
     go_wp2
     have HE : Sep w [] _ _ := ((((HR.out.setb 0 rfl 1 (.slice none 0 0) rfl).setb 4 rfl 0 (.slice (some ⟨gs, 0, none⟩) m.secs.length d1) rfl).setb 4 rfl 1 (.slice none 0 0) rfl).setb 4 rfl 2 (.bool mf) rfl).setb 4 rfl 3 (.slice B3 m.bad.length d3) rfl
     refine bodyPost_ret (results_cell_row rfl _ _ (w.heap.size + 1) 89 #[.slice (some ⟨gs, 0, none⟩) m.secs.length d1, .slice none 0 0, .bool mf, .slice B3 m.bad.length d3] (0, 0) _ rfl (HE.get 4 rfl) Tryz.underlying89 rfl (by kernel_rfl)) rfl ?_
     rw [Hval.out]
     have h9 := (((HE.nil oWr 126).sel [2, 0, 4] (by decide) (by simp))).toMem (m := ⟨m.cache.foldl putW m.secs, [], m.failed, m.bad⟩)
     rw [Hmf.out] at h9 ⊢
     exact ⟨_, _, rfl, h9.toNew 0 rfl⟩
  ·simp only [Bool.not_eq_true] at hcan
   have hval : flushV m = m := by unfold flushV; rw [hcan]; rfl
   have Hval := Aside0.mk hval
   rw [hcan]
   obtain ⟨k1, k2, k3, k4⟩ := four (HB.out.get 0 rfl)
   obtain ⟨z1, z2, z3, z4⟩ := four (HB.out.get 4 rfl)
   have fz := blk_frozen (HB.out.get 4 rfl)
   clear hcan hval
   go_wp2
   have HE : Sep w [] _ _ := (((HB.out.setb 4 rfl 0 (.slice B1 m.secs.length d1) rfl).setb 4 rfl 1 (.slice B2 m.cache.length d2) rfl).setb 4 rfl 2 (.bool mf) rfl).setb 4 rfl 3 (.slice B3 m.bad.length d3) rfl
   refine bodyPost_ret (results_cell_row rfl _ _ (w.heap.size + 1) 89 #[.slice B1 m.secs.length d1, .slice B2 m.cache.length d2, .bool mf, .slice B3 m.bad.length d3] (0, 0) _ rfl (HE.get 4 rfl) Tryz.underlying89 rfl (by kernel_rfl)) rfl ?_
   rw [Hval.out]
   have h9 := (HE.sel [1, 2, 3] (by decide) (by simp)).toMem (m := m)
   rw [Hmf.out] at h9
   exact ⟨_, _, rfl, h9.toNew 0 rfl⟩
end MFlush
namespace MFlushS
open Go.RowKit RJ Go.Proofs.YtggmifnblcjdfaaGreatW.PrintWords Fp FpStep MInt MKinds MRead MMake MPut MOk MVal Go.Proofs.YtggmifnblcjdfaaGreat.Sep SepStep MCopy MCopyS MFlush MRel
attribute [local go_sem ↓] Go.wp_at_zero Go.wp_at_succ
def Left (l : List (Int × List Int)) (i : Nat) (es : List (Int × Option (List Int))) : Prop := es.length = l.length ∧ ∀ (j : Nat) (x : Int × List Int), i ≤ j → l[j]? = some x → es[j]? = some (x.1, some x.2)
theorem Left.start (l : List (Int × List Int)) : Left l 0 (l.map (fun x => (x.1, some x.2))) := ⟨by simp, fun j x _ h => by rw [List.getElem?_map, h]; rfl⟩
theorem Left.skip {l : List (Int × List Int)} {i : Nat} {es : List (Int × Option (List Int))} (h : Left l i es) : Left l (i + 1) es := ⟨h.1, fun j x hj hx => h.2 j x (by omega) hx⟩
theorem Left.give {l : List (Int × List Int)} {i : Nat} {es : List (Int × Option (List Int))} (h : Left l i es) (y : Int × Option (List Int)) : Left l (i + 1) (es.set i y) := ⟨by simp [h.1], fun j x hj hx => by rw [List.getElem?_set_ne (by omega)]; exact h.2 j x (by omega) hx⟩
set_option maxHeartbeats 4000000 in
set_option maxRecDepth 100000 in
theorem c_specFlushMem {w : World} {v : Value} {m : MemV} (h : MemR w v m) (hs : Small m) :
  Calls Tryz.prog 108 #[v] w fun e w' => ∃ u F, e = .returned u ∧ New w w' (me F u (flushV m)) := by
 have H := Aside0.mk h
 obtain ⟨s, c, b, rfl, r1, r2, r3⟩ := h
 have H2 := Aside0.mk r2
 obtain ⟨A1, c1, rfl, _⟩ := r1
 obtain ⟨A2, c2, rfl, _⟩ := r2
 obtain ⟨A3, c3, rfl, _⟩ := r3
 have hb1 := hs.1
 have hb2 := hs.2.2.1
 have HS := Aside0.mk hs
 clear hs
 generalize hmf : m.failed = mf at H
 have Hmf := Aside0.mk hmf
 clear hmf
 go_enter Tryz.func108, Tryz.ntmps108
 go_upto_region 2 with (first
  | (go_at_call 68; refine (c_l2Copy (MemR_below H.out (below_alloc (below_alloc (Below.refl _ _) _) _)) HS.out).mono ?_; rintro e w1 ⟨u, F, rfl, hn⟩; obtain ⟨B1, d1, B2, d2, B3, d3, F1, F2, F3, rfl, h1⟩ := ((((Sep.start w []).alloc (g := w.heap.size) rfl #[.slice A1 m.secs.length c1, .slice A2 m.cache.length c2, .bool mf, .slice A3 m.bad.length c3] 89).alloc (g := w.heap.size + 1) (by simp) #[.slice none 0 0, .slice none 0 0, .bool false, .slice none 0 0] 89).new hn).ofMem; rw [Hmf.out]; have HS1 := Aside0.mk (h1.alloc (g := w1.heap.size) rfl #[.slice B1 m.secs.length d1, .slice B2 m.cache.length d2, .bool mf, .slice B3 m.bad.length d3] 89); clear hn h1)
  | fail)
 generalize hg : w1.heap.size = g at *
 generalize hw2 : w1.alloc (.cells #[.slice B1 m.secs.length d1, .slice B2 m.cache.length d2, .bool mf, .slice B3 m.bad.length d3] 89 (0, 0)) = w2 at *
 clear hg hw2
 obtain ⟨k1, k2, k3, k4⟩ := four (HS1.out.get 5 rfl)
 go_cut [13] (fun s13 wx => s13 = .bool (!(memB m && !m.failed)) ∧ Aside0 (Sep w [] wx [bx g 89 #[.slice B1 m.secs.length d1, .slice B2 m.cache.length d2, .bool mf, .slice B3 m.bad.length d3], rw_ oSec 28 F1 (.slice B1 m.secs.length d1) (m.secs), rw_ oWr 126 F2 (.slice B2 m.cache.length d2) m.cache, rw_ oInt 3 F3 (.slice B3 m.bad.length d3) m.bad, bx (w.heap.size + 1) 89 #[.slice none 0 0, .slice none 0 0, .bool false, .slice none 0 0], bx w.heap.size 89 #[.slice A1 m.secs.length c1, .slice A2 m.cache.length c2, .bool mf, .slice A3 m.bad.length c3]]))
 case first =>
  have hk := Hmf.out
  by_cases hA : memB m = true
  ·have hcan : (!(memB m && !m.failed)) = mf := by rw [hA, hk]; simp
   have Hcan := Aside0.mk hcan
   clear hcan hk
   cases mf
   ·go_wp2_with (first
     | (go_at_call 145; refine (c_specMemOk (MemR_below H.out HS1.out.toBelow)).mono ?_; rintro e w3 ⟨rfl, hb⟩; have HS2 := Aside0.mk (HS1.out.below hb); clear hb k1 k2 k3 k4; obtain ⟨k1, k2, k3, k4⟩ := four (HS2.out.get 5 rfl))
     | fail)
    go_meet
    exact ⟨by rw [Hcan.out], HS2⟩
   ·go_wp2_with (first
     | (go_at_call 145; refine (c_specMemOk (MemR_below H.out HS1.out.toBelow)).mono ?_; rintro e w3 ⟨rfl, hb⟩; have HS2 := Aside0.mk (HS1.out.below hb); clear hb k1 k2 k3 k4; obtain ⟨k1, k2, k3, k4⟩ := four (HS2.out.get 5 rfl))
     | fail)
    go_meet
    exact ⟨by rw [Hcan.out], HS2⟩
  ·simp only [Bool.not_eq_true] at hA
   have hcan : (!(memB m && !m.failed)) = true := by rw [hA]; rfl
   have Hcan := Aside0.mk hcan
   clear hcan hk
   go_wp2_with (first
    | (go_at_call 145; refine (c_specMemOk (MemR_below H.out HS1.out.toBelow)).mono ?_; rintro e w3 ⟨rfl, hb⟩; have HS2 := Aside0.mk (HS1.out.below hb); clear hb k1 k2 k3 k4; obtain ⟨k1, k2, k3, k4⟩ := four (HS2.out.get 5 rfl))
    | fail)
   go_meet
   exact ⟨by rw [Hcan.out], HS2⟩
 case rest =>
  obtain ⟨rfl, HB⟩ := hcut
  clear k1 k2 k3 k4 HS1
  by_cases hcan : (memB m && !m.failed) = true
  ·have hc2 : (!(memB m && !m.failed)) = false := by rw [hcan]; rfl
   rw [hc2]
   have hval : flushV m = ⟨m.cache.foldl putW m.secs, [], m.failed, m.bad⟩ := by unfold flushV; rw [if_pos hcan]
   obtain ⟨hp1, hp2, hp3, hp4, hp5⟩ := memB_parts (m := m) (by simp at hcan; exact hcan.1)
   have Hval := Aside0.mk hval
   have Hp2 := Aside0.mk hp2
   have hl1 := hp4.1
   clear hcan hval hp1 hp2 hp3 hp4 hp5 hc2
   obtain ⟨gs, capS, hB1, _, _⟩ := O_form (show oSec.O 28 wc F1 (.slice B1 m.secs.length d1) m.secs from HB.out.get 1 rfl) (by omega)
   cases hB1
   have HU := Aside0.mk ((Sep.toU (HB.out.sel [2, 0, 1, 3, 4, 5] (by decide) (by simp))).sel [1, 2, 0, 3, 4, 5] (by decide) (by simp))
   obtain ⟨k1, k2, k3, k4⟩ := four (HU.out.get 0 rfl)
   go_wp2
   go_loopw [4] (fun v4 wr => ∃ i : Nat, i ≤ m.cache.length ∧ v4 = .int .i64 i ∧ ∃ (F F2 : List Nat) (es : List (Int × Option (List Int))), Aside0 (Left m.cache i es ∧ Sep w [] wr [bx g 89 #[.slice (some ⟨gs, 0, none⟩) m.secs.length d1, .slice B2 m.cache.length d2, .bool mf, .slice B3 m.bad.length d3], rw_ oSec 28 F (.slice (some ⟨gs, 0, none⟩) m.secs.length d1) ((m.cache.take i).foldl putW m.secs), rw_ oWrU 126 F2 (.slice B2 m.cache.length d2) es, rw_ oInt 3 F3 (.slice B3 m.bad.length d3) m.bad, bx (w.heap.size + 1) 89 #[.slice none 0 0, .slice none 0 0, .bool false, .slice none 0 0], bx w.heap.size 89 #[.slice A1 m.secs.length c1, .slice A2 m.cache.length c2, .bool mf, .slice A3 m.bad.length c3]])) (fun v4 _ => m.cache.length - (intOf v4).toNat)
   case atStart => exact ⟨0, by omega, rfl, F1, F2, _, ⟨Left.start _, HU.out⟩⟩
   case round =>
    obtain ⟨i, hi, rfl, F, F2, es, HLR⟩ := hrel
    have HR := Aside0.mk HLR.out.2
    clear k1 k2 k3 k4
    obtain ⟨k1, k2, k3, k4⟩ := four (HR.out.get 0 rfl)
    by_cases hlt : i < m.cache.length
    ·obtain ⟨⟨xn, x⟩, hxi⟩ : ∃ x, m.cache[i]? = some x := ⟨_, List.getElem?_eq_getElem hlt⟩
     have hei := HLR.out.1.2 i _ (Nat.le_refl _) hxi
     obtain ⟨gc, capC, hB2, _, _⟩ := O_form (show oWrU.O 126 _ F2 (.slice B2 m.cache.length d2) es from HR.out.get 2 rfl) (by rw [HLR.out.1.1]; omega)
     rw [HLR.out.1.1] at hB2
     cases hB2
     obtain ⟨q, hq, hql, _⟩ := wrB_at (Hp2.out _ (List.mem_of_getElem? hxi))
     simp only at hq
     subst hq
     have Hxi := Aside0.mk hxi
     have Hei := Aside0.mk hei
     have q0 : (0 : Int) ≤ (q : Int) := by omega
     have ql : (q : Int) < (m.secs.length : Int) := by omega
     have i0 : (0 : Int) ≤ (i : Int) := by omega
     have i1 : (i : Int) < (m.cache.length : Int) := by omega
     clear hxi hei
     obtain ⟨G, A6, c6, F3_, cn, cu, hgive⟩ := Sep.give (HR.out.sel [2, 0, 1, 3, 4, 5] (by decide) (by simp)) Hei.out
     have HG := Aside0.mk hgive
     have hlen : q < ((m.cache.take i).foldl putW m.secs).length := by rw [foldPut_len]; omega
     obtain ⟨uu, cc1, cc2⟩ := O_cells (d := oSec) (t := 0) (HR.out.get 1 rfl) hlen (by decide)
     simp only [show oSec.sz = 1 from rfl, Nat.mul_one, Nat.add_zero] at cc1 cc2
     clear hgive k3 k4
     go_wp2
     refine wp_region_seq (fun w' => w'.cell? ⟨g, 0, none⟩ = some (.slice (some ⟨gs, 0, none⟩) m.secs.length d1) ∧ w'.cell? ⟨g, 1, none⟩ = some (.slice (some ⟨gc, 0, none⟩) m.cache.length d2) ∧ w'.cell? ⟨gc, i * 2, none⟩ = some (.int .i64 (q : Int)) ∧ w'.cell? ⟨gc, i * 2 + 1, none⟩ = some (.slice A6 x.length c6)) [15] [(0, true), (1, true), (2, true), (3, true), (4, true), (5, true), (6, true), (7, true), (8, true), (9, true), (10, true), (11, true), (12, true), (13, true), (14, true), (15, false)] (by kernel_rfl) (by kernel_rfl) ?_
     have hS : (fun w' : World => w'.cell? ⟨g, 0, none⟩ = some (.slice (some ⟨gs, 0, none⟩) m.secs.length d1) ∧ w'.cell? ⟨g, 1, none⟩ = some (.slice (some ⟨gc, 0, none⟩) m.cache.length d2) ∧ w'.cell? ⟨gc, i * 2, none⟩ = some (.int .i64 (q : Int)) ∧ w'.cell? ⟨gc, i * 2 + 1, none⟩ = some (.slice A6 x.length c6)) wr.drew := ⟨k1, k2, cn, cu⟩
     iterate 15 (refine seq_take hS rfl (fun _ _ _ h => h) (by rfl) (fun w_ hSw => by (try dsimp only at hSw); go_simp; first | done | with_reducible rfl) ?_; (try simp only [Act.put, qqP]))
     clear hS
     refine seq_step rfl (fun K hK => ?_)
     go_simp
     refine hK.out _ _ ⟨(fun h => (by cases h)), ?_⟩; clear hK K; (try simp only [Act.put, qqP])
     refine seq_done ?_
     go_wp2
     go_roundw
     case rel =>
      have hgd := HG.out.drew
      obtain ⟨F', hput⟩ := Sep.put (d := oSec) (i := q) (y := x) (us := [.slice A6 x.length c6]) (hgd.sel [3, 0, 1, 2, 4, 5, 6] (by decide) (by simp)) hlen ⟨_, rfl, HG.out.drew.get 0 rfl⟩
      refine ⟨i + 1, by omega, by go_num, F', F3_, es.set i ((q : Int), none), ⟨HLR.out.1.give _, ?_⟩⟩
      rw [take_snoc Hxi.out, foldPut_snoc]
      have h8 := hput.sel [2, 0, 1, 3, 4, 5] (by decide) (by simp)
      simp only [show oSec.sz = 1 from rfl, Nat.mul_one] at h8
      exact h8
     case measure => simp [intOf]; omega
    ·obtain rfl : i = m.cache.length := by omega
     rw [List.take_length] at HR
     obtain ⟨z1, z2, z3, z4⟩ := four (HR.out.get 4 rfl)
     replace z1 := cell_alloc z1; replace z2 := cell_alloc z2; replace z3 := cell_alloc z3; replace z4 := cell_alloc z4
     have a1 := cell_alloc k1; have a2 := cell_alloc k2; have a3 := cell_alloc k3; have a4 := cell_alloc k4
     have fk := frozen_alloc (HR.out.get 0 rfl)
     have fz := frozen_alloc (HR.out.get 4 rfl)
     have hgr : g ≠ w.heap.size + 1 := HR.out.neq 0 4 rfl rfl (by decide)
     have hrg : w.heap.size + 1 ≠ g := Ne.symm hgr
     go_wp2
     have HE : Sep w [] _ _ := (((((HR.out.lit (g := wr.heap.size) rfl oWr 126).setb 1 rfl 1 (.slice (some ⟨wr.heap.size, 0, none⟩) 0 0) rfl).setb 5 rfl 0 (.slice (some ⟨gs, 0, none⟩) m.secs.length d1) rfl).setb 5 rfl 1 (.slice (some ⟨wr.heap.size, 0, none⟩) 0 0) rfl).setb 5 rfl 2 (.bool mf) rfl).setb 5 rfl 3 (.slice B3 m.bad.length d3) rfl
     refine bodyPost_ret (results_cell_row rfl _ _ (w.heap.size + 1) 89 #[.slice (some ⟨gs, 0, none⟩) m.secs.length d1, .slice (some ⟨wr.heap.size, 0, none⟩) 0 0, .bool mf, .slice B3 m.bad.length d3] (0, 0) _ rfl (HE.get 5 rfl) Tryz.underlying89 rfl (by kernel_rfl)) rfl ?_
     rw [Hval.out]
     have h9 := ((HE.sel [2, 0, 4] (by decide) (by simp))).toMem (m := ⟨m.cache.foldl putW m.secs, [], m.failed, m.bad⟩)
     rw [Hmf.out] at h9 ⊢
     exact ⟨_, _, rfl, h9.toNew 0 rfl⟩
  ·simp only [Bool.not_eq_true] at hcan
   have hval : flushV m = m := by unfold flushV; rw [hcan]; rfl
   have Hval := Aside0.mk hval
   rw [hcan]
   obtain ⟨k1, k2, k3, k4⟩ := four (HB.out.get 0 rfl)
   obtain ⟨z1, z2, z3, z4⟩ := four (HB.out.get 4 rfl)
   have fz := blk_frozen (HB.out.get 4 rfl)
   clear hcan hval
   go_wp2
   have HE : Sep w [] _ _ := (((HB.out.setb 4 rfl 0 (.slice B1 m.secs.length d1) rfl).setb 4 rfl 1 (.slice B2 m.cache.length d2) rfl).setb 4 rfl 2 (.bool mf) rfl).setb 4 rfl 3 (.slice B3 m.bad.length d3) rfl
   refine bodyPost_ret (results_cell_row rfl _ _ (w.heap.size + 1) 89 #[.slice B1 m.secs.length d1, .slice B2 m.cache.length d2, .bool mf, .slice B3 m.bad.length d3] (0, 0) _ rfl (HE.get 4 rfl) Tryz.underlying89 rfl (by kernel_rfl)) rfl ?_
   rw [Hval.out]
   have h9 := (HE.sel [1, 2, 3] (by decide) (by simp)).toMem (m := m)
   rw [Hmf.out] at h9
   exact ⟨_, _, rfl, h9.toNew 0 rfl⟩
end MFlushS
namespace AOpV
open Go.RowKit MKinds MRead MPut MHeld MOk MVal LawLib AKinds AMark
def opV (a : ArrV) : ArrV := if a.down then a else if a.fuse = 0 then { a with down := true, fuse := -1 } else if 0 < a.fuse then { a with fuse := a.fuse - 1 } else a
def opB (a : ArrV) : Bool := !a.down && !(a.fuse == 0)
def setM (a : ArrV) (i : Nat) (m : MemV) : ArrV := { a with mems := a.mems.set i m }
def turnV (a : ArrV) (i : Nat) (f : MemV → MemV) : ArrV := match a.mems[i]? with
 | some x => if x.failed then a else if opB a then setM (opV a) i (f x) else opV a
 | none => a
theorem opV_mems (a : ArrV) : (opV a).mems = a.mems := by unfold opV; split; rfl; split; rfl; split <;> rfl
theorem opV_dirty (a : ArrV) : (opV a).dirty = a.dirty := by unfold opV; split; rfl; split; rfl; split <;> rfl
theorem opB_down {a : ArrV} (h : a.down = true) : opB a = false ∧ opV a = a := by unfold opB opV; rw [h]; exact ⟨rfl, rfl⟩
theorem opV_down {a : ArrV} (h : a.down = false) : (opV a).down = !opB a := by
 unfold opV opB; rw [h]
 by_cases h0 : a.fuse = 0
 ·simp [h0]
 ·by_cases h1 : 0 < a.fuse
  ·simp [h0, h1, h]
  ·simp [h0, h1, h]
theorem turnV_down {a : ArrV} (h : a.down = true) (i : Nat) (f : MemV → MemV) : turnV a i f = a := by
 obtain ⟨h1, h2⟩ := opB_down h
 unfold turnV
 split
 ·split
  ·rfl
  ·rw [h1, h2]; rfl
 ·rfl
theorem turnV_len (a : ArrV) (i : Nat) (f : MemV → MemV) : (turnV a i f).mems.length = a.mems.length := by
 unfold turnV
 split
 ·split
  ·rfl
  ·split
   ·simp [setM, opV_mems]
   ·rw [opV_mems]
 ·rfl
theorem turnV_dirty (a : ArrV) (i : Nat) (f : MemV → MemV) : (turnV a i f).dirty = a.dirty := by
 unfold turnV
 split
 ·split
  ·rfl
  ·split
   ·simp [setM, opV_dirty]
   ·rw [opV_dirty]
 ·rfl
theorem turnV_all {a : ArrV} {i : Nat} {f : MemV → MemV} {P : MemV → Prop} (h : ∀ m ∈ a.mems, P m) (hf : ∀ m, P m → P (f m)) : ∀ m ∈ (turnV a i f).mems, P m := by
 unfold turnV
 split
 ·rename_i x hx
  split
  ·exact h
  ·split
   ·intro m hm
    simp only [setM, opV_mems] at hm
    rcases List.mem_or_eq_of_mem_set hm with h1 | h1
    ·exact h m h1
    ·rw [h1]; exact hf x (h x (List.mem_of_getElem? hx))
   ·rw [opV_mems]; exact h
 ·exact h
def syncN (a : ArrV) : Nat → ArrV
 | 0 => a
 | i + 1 => turnV (syncN a i) i flushV
def syncV (a : ArrV) : ArrV := syncN a a.mems.length
theorem syncN_len (a : ArrV) : ∀ i, (syncN a i).mems.length = a.mems.length
 | 0 => rfl
 | i + 1 => by rw [syncN, turnV_len, syncN_len a i]
theorem syncN_dirty (a : ArrV) : ∀ i, (syncN a i).dirty = a.dirty
 | 0 => rfl
 | i + 1 => by rw [syncN, turnV_dirty, syncN_dirty a i]
theorem syncN_stay {a : ArrV} {i : Nat} (h : (syncN a i).down = true) : ∀ d, syncN a (i + d) = syncN a i
 | 0 => rfl
 | d + 1 => by rw [← Nat.add_assoc, syncN, syncN_stay h d, turnV_down h]
theorem syncV_down {a : ArrV} {i : Nat} (h : (syncN a i).down = true) (hi : i ≤ a.mems.length) : syncV a = syncN a i := by
 have := syncN_stay h (a.mems.length - i)
 rwa [show i + (a.mems.length - i) = a.mems.length by omega] at this
theorem small_flush {m : MemV} (h : Small m) : Small (flushV m) := by
 obtain ⟨h1, h2, h3, h4, h5⟩ := h
 unfold flushV
 split
 ·refine ⟨by simpa [foldPut_len] using h1, fun x hx => ?_, by simp, by simp, h5⟩
  have : ∀ (l : List (Int × List Int)) (secs : List (List Int)), (∀ x ∈ secs, x.length ≤ 16777216) → (∀ e ∈ l, e.2.length ≤ 16777216) → ∀ x ∈ l.foldl putW secs, x.length ≤ 16777216 := by
   intro l
   induction l with
   | nil => intro secs hs _ x hx; exact hs x hx
   | cons e l ih =>
    intro secs hs hl x hx
    rw [List.foldl_cons] at hx
    refine ih _ (fun y hy => ?_) (fun e' he' => hl e' (List.mem_cons_of_mem _ he')) x hx
    rcases List.mem_or_eq_of_mem_set hy with q | q
    ·exact hs y q
    ·rw [q]; exact hl e (List.mem_cons_self ..)
  exact this m.cache m.secs h2 h4 x hx
 ·exact ⟨h1, h2, h3, h4, h5⟩
theorem small_write {m : MemV} {n : Int} {xs : List Int} (h : Small m) (hx : xs.length ≤ 16777216) : Small (writeV m n xs) := by
 obtain ⟨h1, h2, h3, h4, h5⟩ := h
 unfold writeV
 split
 ·rename_i hc
  have hb : m.cache.length < 60 := by simp [canWrite] at hc; omega
  refine ⟨h1, h2, by simp; omega, fun e he => ?_, ?_⟩
  ·rcases List.mem_append.1 he with q | q
   ·exact h4 e q
   ·simp at q; rw [q]; exact hx
  ·have : (without m.bad n).length ≤ m.bad.length := List.length_filter_le _ _
   simp only; omega
 ·exact ⟨h1, h2, h3, h4, h5⟩
end AOpV
namespace AOp
open Go.RowKit RJ RP Go.Proofs.YtggmifnblcjdfaaGreatW.PrintWords Fp FpStep MInt MKinds MRead MMake MPut MHeld MOk MSuper Go.Proofs.YtggmifnblcjdfaaGreat.Sep SepStep AKinds AMake AEnt ALaw AArr AOk MVal AHole AMark AOpV MFlush MFlushS
set_option maxHeartbeats 2000000 in
theorem c_implOp {w0 w : World} {S : List Nat} {L : List Res} {g : Nat} {vm vd : Value} {a : ArrV} (hs : Sep w0 S w (bx g 34 (arrC a vm vd) :: L)) (hd : a.down = false) (hfu : a.fuse ≤ 1000) :
  Calls Tryz.prog 102 #[.pointer (some ⟨g, 0, none⟩)] w fun e w' => e = .returned (.bool (opB a)) ∧ Sep w0 S w' (bx g 34 (arrC (opV a) vm vd) :: L) := by
 obtain ⟨id, gn, gs, mems, lost, built, seq, tail, gen, dirty, fuse, down, broken⟩ := a
 simp only [arrC] at hs
 have HS := Aside0.mk hs
 obtain ⟨k0, k1, k2, k3, k4, k5, k6, k7, k8, k9, k10, k11, k12⟩ := thirteen (hs.get 0 rfl)
 have gz := blk_frozen (hs.get 0 rfl)
 clear hs
 simp only at hfu
 simp only at hd
 subst hd
 by_cases h0 : fuse = 0
 ·subst h0
  have hf : ((0 : Int) == 0) = true := rfl
  go_enter Tryz.func102, Tryz.ntmps102
  go_wp2
  go_ret
  have HE := (HS.out.setb 0 rfl 11 (.bool true) (cs' := #[.int .i64 id, .int .i64 gn, .int .i64 gs, vm, .int .i64 lost, .int .i64 built, .int .i64 seq, .int .i64 tail, .int .i64 gen, vd, .int .i64 0, .bool true, .bool broken]) rfl).setb 0 rfl 10 (.int .i64 (-1)) (cs' := #[.int .i64 id, .int .i64 gn, .int .i64 gs, vm, .int .i64 lost, .int .i64 built, .int .i64 seq, .int .i64 tail, .int .i64 gen, vd, .int .i64 (-1), .bool true, .bool broken]) rfl
  simp only [qqN] at HE
  exact ⟨rfl, HE⟩
 ·have hf : (fuse == 0) = false := by simpa using h0
  have H0 := Aside0.mk h0
  clear h0
  by_cases h1 : 0 < fuse
  ·have HO := Aside0.mk (show opV (⟨id, gn, gs, mems, lost, built, seq, tail, gen, dirty, fuse, false, broken⟩ : ArrV) = (⟨id, gn, gs, mems, lost, built, seq, tail, gen, dirty, fuse - 1, false, broken⟩ : ArrV) by unfold opV; simp [H0.out, h1])
   have HB := Aside0.mk (show opB (⟨id, gn, gs, mems, lost, built, seq, tail, gen, dirty, fuse, false, broken⟩ : ArrV) = true by unfold opB; simp [H0.out])
   have h1b : decide (0 < fuse) = true := decide_eq_true h1
   have wf : IntKind.i64.wrap (fuse - 1) = fuse - 1 := IntWalk.i64_in _ (by have := hfu; omega)
   go_enter Tryz.func102, Tryz.ntmps102
   go_wp2
   go_ret
   rw [HO.out, HB.out]
   have HE := HS.out.setb 0 rfl 10 (.int .i64 (fuse - 1)) (cs' := #[.int .i64 id, .int .i64 gn, .int .i64 gs, vm, .int .i64 lost, .int .i64 built, .int .i64 seq, .int .i64 tail, .int .i64 gen, vd, .int .i64 (fuse - 1), .bool false, .bool broken]) rfl
   simp only [qqN] at HE
   exact ⟨rfl, HE⟩
  ·have HO := Aside0.mk (show opV (⟨id, gn, gs, mems, lost, built, seq, tail, gen, dirty, fuse, false, broken⟩ : ArrV) = (⟨id, gn, gs, mems, lost, built, seq, tail, gen, dirty, fuse, false, broken⟩ : ArrV) by unfold opV; simp [H0.out, h1])
   have HB := Aside0.mk (show opB (⟨id, gn, gs, mems, lost, built, seq, tail, gen, dirty, fuse, false, broken⟩ : ArrV) = true by unfold opB; simp [H0.out])
   have h1b : decide (0 < fuse) = false := decide_eq_false h1
   go_enter Tryz.func102, Tryz.ntmps102
   go_wp2
   go_ret
   rw [HO.out, HB.out]
   exact ⟨rfl, HS.out⟩
set_option maxHeartbeats 2000000 in
theorem c_specOp {w0 w : World} {S : List Nat} {L : List Res} {g : Nat} {vm vd : Value} {a : ArrV} (hs : Sep w0 S w (bx g 34 (arrC a vm vd) :: L)) (hfu : a.fuse ≤ 1000) :
  Calls Tryz.prog 107 #[.pointer (some ⟨g, 0, none⟩)] w fun e w' => e = .returned (.bool (opB a)) ∧ Sep w0 S w' (bx g 34 (arrC (opV a) vm vd) :: L) := by
 obtain ⟨id, gn, gs, mems, lost, built, seq, tail, gen, dirty, fuse, down, broken⟩ := a
 simp only [arrC] at hs
 have HS := Aside0.mk hs
 obtain ⟨k0, k1, k2, k3, k4, k5, k6, k7, k8, k9, k10, k11, k12⟩ := thirteen (hs.get 0 rfl)
 have gz := blk_frozen (hs.get 0 rfl)
 clear hs
 simp only at hfu
 cases hdn : down
 case true =>
  subst hdn
  go_enter Tryz.func107, Tryz.ntmps107
  go_wp2
  go_ret
  exact ⟨rfl, HS.out⟩
 subst hdn
 by_cases h0 : fuse = 0
 ·subst h0
  have hf : ((0 : Int) == 0) = true := rfl
  go_enter Tryz.func107, Tryz.ntmps107
  go_wp2
  go_ret
  have HE := (HS.out.setb 0 rfl 11 (.bool true) (cs' := #[.int .i64 id, .int .i64 gn, .int .i64 gs, vm, .int .i64 lost, .int .i64 built, .int .i64 seq, .int .i64 tail, .int .i64 gen, vd, .int .i64 0, .bool true, .bool broken]) rfl).setb 0 rfl 10 (.int .i64 (-1)) (cs' := #[.int .i64 id, .int .i64 gn, .int .i64 gs, vm, .int .i64 lost, .int .i64 built, .int .i64 seq, .int .i64 tail, .int .i64 gen, vd, .int .i64 (-1), .bool true, .bool broken]) rfl
  simp only [qqN] at HE
  exact ⟨rfl, HE⟩
 ·have hf : (fuse == 0) = false := by simpa using h0
  have H0 := Aside0.mk h0
  clear h0
  by_cases h1 : 0 < fuse
  ·have HO := Aside0.mk (show opV (⟨id, gn, gs, mems, lost, built, seq, tail, gen, dirty, fuse, false, broken⟩ : ArrV) = (⟨id, gn, gs, mems, lost, built, seq, tail, gen, dirty, fuse - 1, false, broken⟩ : ArrV) by unfold opV; simp [H0.out, h1])
   have HB := Aside0.mk (show opB (⟨id, gn, gs, mems, lost, built, seq, tail, gen, dirty, fuse, false, broken⟩ : ArrV) = true by unfold opB; simp [H0.out])
   have h1b : decide (0 < fuse) = true := decide_eq_true h1
   have wf : IntKind.i64.wrap (fuse - 1) = fuse - 1 := IntWalk.i64_in _ (by have := hfu; omega)
   go_enter Tryz.func107, Tryz.ntmps107
   go_wp2
   go_ret
   rw [HO.out, HB.out]
   have HE := HS.out.setb 0 rfl 10 (.int .i64 (fuse - 1)) (cs' := #[.int .i64 id, .int .i64 gn, .int .i64 gs, vm, .int .i64 lost, .int .i64 built, .int .i64 seq, .int .i64 tail, .int .i64 gen, vd, .int .i64 (fuse - 1), .bool false, .bool broken]) rfl
   simp only [qqN] at HE
   exact ⟨rfl, HE⟩
  ·have HO := Aside0.mk (show opV (⟨id, gn, gs, mems, lost, built, seq, tail, gen, dirty, fuse, false, broken⟩ : ArrV) = (⟨id, gn, gs, mems, lost, built, seq, tail, gen, dirty, fuse, false, broken⟩ : ArrV) by unfold opV; simp [H0.out, h1])
   have HB := Aside0.mk (show opB (⟨id, gn, gs, mems, lost, built, seq, tail, gen, dirty, fuse, false, broken⟩ : ArrV) = true by unfold opB; simp [H0.out])
   have h1b : decide (0 < fuse) = false := decide_eq_false h1
   go_enter Tryz.func107, Tryz.ntmps107
   go_wp2
   go_ret
   rw [HO.out, HB.out]
   exact ⟨rfl, HS.out⟩
end AOp
namespace ASyncF
open Go.RowKit RJ RP Go.Proofs.YtggmifnblcjdfaaGreatW.PrintWords Fp FpStep MInt MKinds MRead MMake MPut MHeld MOk MSuper Go.Proofs.YtggmifnblcjdfaaGreat.Sep SepStep AKinds AMake AEnt ALaw AArr AOk MVal AHole AMark AOpV MFlush MFlushS AOp
theorem opV_fuse {a : ArrV} (h : a.fuse ≤ 1000) : (opV a).fuse ≤ 1000 := by
 unfold opV
 split
 ·exact h
 ·split
  ·simp
  ·split
   ·simp only; omega
   ·exact h
theorem turnV_fuse {a : ArrV} {i : Nat} {f : MemV → MemV} (h : a.fuse ≤ 1000) : (turnV a i f).fuse ≤ 1000 := by
 unfold turnV
 split
 ·split
  ·exact h
  ·split
   ·exact opV_fuse h
   ·exact opV_fuse h
 ·exact h
theorem syncN_fuse {a : ArrV} (h : a.fuse ≤ 1000) : ∀ i, (syncN a i).fuse ≤ 1000
 | 0 => h
 | i + 1 => turnV_fuse (syncN_fuse h i)
theorem syncN_small {a : ArrV} (h : ∀ m ∈ a.mems, Small m) : ∀ i, ∀ m ∈ (syncN a i).mems, Small m
 | 0 => h
 | i + 1 => turnV_all (P := Small) (syncN_small h i) (fun m hm => small_flush hm)
theorem turnV_failed {a : ArrV} {i : Nat} {f : MemV → MemV} {x : MemV} (hx : a.mems[i]? = some x) (hf : x.failed = true) : turnV a i f = a := by unfold turnV; rw [hx]; simp [hf]
theorem turnV_no {a : ArrV} {i : Nat} {f : MemV → MemV} {x : MemV} (hx : a.mems[i]? = some x) (hf : x.failed = false) (hb : opB a = false) : turnV a i f = opV a := by unfold turnV; rw [hx]; simp [hf, hb]
theorem turnV_yes {a : ArrV} {i : Nat} {f : MemV → MemV} {x : MemV} (hx : a.mems[i]? = some x) (hf : x.failed = false) (hb : opB a = true) : turnV a i f = setM (opV a) i (f x) := by unfold turnV; rw [hx]; simp [hf, hb]
theorem mem_at {w : World} {e : TypeId} {F : List Nat} {g n cap i : Nat} {xs : List MemV} {x : MemV} (h : oMem.O e w F (.slice (some ⟨g, 0, none⟩) n cap) xs) (hi : xs[i]? = some x) :
  n = xs.length ∧ ∃ A1 c1 A2 c2 A3 c3, w.cell? ⟨g, i * 4, none⟩ = some (.slice A1 x.secs.length c1) ∧ w.cell? ⟨g, i * 4 + 1, none⟩ = some (.slice A2 x.cache.length c2) ∧ w.cell? ⟨g, i * 4 + 2, none⟩ = some (.bool x.failed) ∧ w.cell? ⟨g, i * 4 + 3, none⟩ = some (.slice A3 x.bad.length c3) ∧ MemR w (.agg #[.slice A1 x.secs.length c1, .slice A2 x.cache.length c2, .bool x.failed, .slice A3 x.bad.length c3]) x ∧ (∀ t, w.frozen? ⟨g, i * 4 + t, none⟩ = false) := by
 obtain ⟨_, _, hv, _⟩ := O_reads h
 obtain ⟨c, G, hM, _, hcell, hfr, _⟩ := O_elem h hi
 have hM' := MemO_R (oMem_M.1 hM)
 obtain ⟨s, cc, b, hc, r1, r2, r3⟩ := id hM'
 have : c = [s, cc, .bool x.failed, b] := congrArg Array.toList (Value.agg.inj hc)
 subst this
 obtain ⟨A1, c1, rfl, _⟩ := id r1
 obtain ⟨A2, c2, rfl, _⟩ := id r2
 obtain ⟨A3, c3, rfl, _⟩ := id r3
 exact ⟨(Value.slice.inj hv).2.1, A1, c1, A2, c2, A3, c3, hcell 0 _ rfl, hcell 1 _ rfl, hcell 2 _ rfl, hcell 3 _ rfl, hM', hfr⟩
set_option maxHeartbeats 8000000 in
set_option maxRecDepth 100000 in
theorem c_implSyncF {w0 w : World} {S : List Nat} {L : List Res} {g hh n c : Nat} {F : List Nat} {vd : Value} {a : ArrV} (hs : Sep w0 S w (bx g 34 (arrC a (.slice (some ⟨hh, 0, none⟩) n c) vd) :: rw_ oMem 89 F (.slice (some ⟨hh, 0, none⟩) n c) a.mems :: L)) (hn : n = a.mems.length) (hml : a.mems.length ≤ 16777216) (hd : a.down = false) (hfu : a.fuse ≤ 1000) (hsm : ∀ m ∈ a.mems, Small m) :
  Calls Tryz.prog 58 #[.pointer (some ⟨g, 0, none⟩)] w fun e w' => ∃ F', e = .returned (.bool (!(syncV a).down)) ∧ Sep w0 S w' (bx g 34 (arrC (syncV a) (.slice (some ⟨hh, 0, none⟩) n c) vd) :: rw_ oMem 89 F' (.slice (some ⟨hh, 0, none⟩) n c) (syncV a).mems :: L) := by
 have HSM := Aside0.mk hsm
 have HFU := Aside0.mk hfu
 have HN := Aside0.mk hn
 have HM1 := Aside0.mk hml
 have H0 := Aside0.mk hs
 have HD0 := Aside0.mk hd
 obtain ⟨k0, k1, k2, k3, k4, k5, k6, k7, k8, k9, k10, k11, k12⟩ := thirteen (hs.get 0 rfl)
 subst hn
 clear hs hsm hfu hd
 go_enter Tryz.func58, Tryz.ntmps58
 go_wp2
 go_loopw [9] (fun v9 wr => ∃ (i : Nat) (st : ArrV) (F' : List Nat), i ≤ a.mems.length ∧ v9 = .int .i64 i ∧ Aside0 (syncN a i = st) ∧ Aside0 (st.down = false) ∧ Aside0 (Sep w0 S wr (bx g 34 (arrC st (.slice (some ⟨hh, 0, none⟩) a.mems.length c) vd) :: rw_ oMem 89 F' (.slice (some ⟨hh, 0, none⟩) a.mems.length c) st.mems :: L))) (fun v9 _ => a.mems.length - (intOf v9).toNat)
 case atStart => exact ⟨0, a, F, by omega, rfl, ⟨rfl⟩, HD0, H0⟩
 case round =>
  clear H0 k0 k1 k2 k3 k4 k5 k6 k7 k8 k9 k10 k11 k12 HD0
  obtain ⟨i, st, F', hi, rfl, HST, HD, HR⟩ := hrel
  have hsl : st.mems.length = a.mems.length := by rw [← HST.out]; exact syncN_len a i
  have HFS := Aside0.mk (show st.fuse ≤ 1000 by rw [← HST.out]; exact syncN_fuse HFU.out i)
  have HSS := Aside0.mk (show ∀ m ∈ st.mems, Small m by rw [← HST.out]; exact syncN_small HSM.out i)
  have HSL := Aside0.mk hsl
  clear hsl
  obtain ⟨k0, k1, k2, k3, k4, k5, k6, k7, k8, k9, k10, k11, k12⟩ := thirteen (HR.out.get 0 rfl)
  by_cases hlt : i < a.mems.length
  ·obtain ⟨x, hx⟩ : ∃ x, st.mems[i]? = some x := ⟨_, List.getElem?_eq_getElem (by have := HSL.out; omega)⟩
   obtain ⟨hz9, A1, c1, A2, c2, A3, c3, m0, m1, m2, m3, hM, hfr⟩ := mem_at (HR.out.get 1 rfl) hx
   clear hz9 hM hfr
   have HX := Aside0.mk hx
   have hxs := HSS.out x (List.mem_of_getElem? hx)
   have HXS := Aside0.mk hxs
   clear hxs
   have i0 : (0 : Int) ≤ (i : Int) := by omega
   have il : (i : Int) < (a.mems.length : Int) := by omega
   generalize hxf : x.failed = xf at *
   have HXF := Aside0.mk hxf
   clear hxf
   cases xf
   ·obtain ⟨ov, hov⟩ : ∃ ov, opV st = ov := ⟨_, rfl⟩
    have HOV := Aside0.mk hov
    have HOM := Aside0.mk (show ov.mems = st.mems by rw [← HOV.out]; exact opV_mems st)
    clear hov
    cases hob : opB st
    ·have HOB := Aside0.mk hob
     clear hob
     have h1 : syncN a (i + 1) = ov := by rw [syncN, HST.out]; exact (turnV_no HX.out HXF.out HOB.out).trans HOV.out
     have HDN := Aside0.mk (show ov.down = true by rw [← HOV.out, opV_down HD.out, HOB.out]; rfl)
     have HSV := Aside0.mk (show syncV a = ov by rw [syncV_down (i := i + 1) (by rw [h1]; exact HDN.out) (by omega), h1])
     clear h1
     go_wp2_with (first
      | (go_at_call 102; refine (c_implOp HR.out HD.out HFS.out).mono ?_; rw [HOB.out, HOV.out]; rintro e w2 ⟨rfl, hs2⟩; have HS2 := Aside0.mk hs2; clear hs2 m0 m1 m2 m3 k0 k1 k2 k3 k4 k5 k6 k7 k8 k9 k10 k11 k12; obtain ⟨k0, k1, k2, k3, k4, k5, k6, k7, k8, k9, k10, k11, k12⟩ := thirteen (HS2.out.get 0 rfl))
      | fail)
     go_ret
     rw [HSV.out, HDN.out, HOM.out]
     first | exact ⟨_, rfl, HS2.out⟩ | exact ⟨rfl, _, HS2.out⟩
    ·have HOB := Aside0.mk hob
     clear hob
     have HDO := Aside0.mk (show ov.down = false by rw [← HOV.out, opV_down HD.out, HOB.out]; rfl)
     go_upto_region 7 with (first
      | (go_at_call 102; refine (c_implOp HR.out HD.out HFS.out).mono ?_; rw [HOB.out, HOV.out]; rintro e w2 ⟨rfl, hs2⟩; have HS2 := Aside0.mk hs2; clear hs2 m0 m1 m2 m3 k0 k1 k2 k3 k4 k5 k6 k7 k8 k9 k10 k11 k12; obtain ⟨k0, k1, k2, k3, k4, k5, k6, k7, k8, k9, k10, k11, k12⟩ := thirteen (HS2.out.get 0 rfl))
      | fail)
     obtain ⟨hz9, A1, c1, A2, c2, A3, c3, m0, m1, m2, m3, hM, hfr⟩ := mem_at (HS2.out.get 1 rfl) HX.out
     rw [HXF.out] at m2 hM
     have RM := Aside0.mk hM
     have HFR := Aside0.mk hfr
     clear hz9 hM hfr
     have HALL : ∀ w' : World, Below w2.heap.size w2 w' → (w'.cell? ⟨g, 0, none⟩ = some (.int .i64 ov.id) ∧ w'.cell? ⟨g, 1, none⟩ = some (.int .i64 ov.gn) ∧ w'.cell? ⟨g, 2, none⟩ = some (.int .i64 ov.gs) ∧ w'.cell? ⟨g, 3, none⟩ = some (.slice (some ⟨hh, 0, none⟩) a.mems.length c) ∧ w'.cell? ⟨g, 4, none⟩ = some (.int .i64 ov.lost) ∧ w'.cell? ⟨g, 5, none⟩ = some (.int .i64 ov.built) ∧ w'.cell? ⟨g, 6, none⟩ = some (.int .i64 ov.seq) ∧ w'.cell? ⟨g, 7, none⟩ = some (.int .i64 ov.tail) ∧ w'.cell? ⟨g, 8, none⟩ = some (.int .i64 ov.gen) ∧ w'.cell? ⟨g, 9, none⟩ = some (vd) ∧ w'.cell? ⟨g, 10, none⟩ = some (.int .i64 ov.fuse) ∧ w'.cell? ⟨g, 11, none⟩ = some (.bool ov.down) ∧ w'.cell? ⟨g, 12, none⟩ = some (.bool ov.broken) ∧ w'.cell? ⟨hh, i * 4, none⟩ = some (.slice A1 x.secs.length c1) ∧ w'.cell? ⟨hh, i * 4 + 1, none⟩ = some (.slice A2 x.cache.length c2) ∧ w'.cell? ⟨hh, i * 4 + 2, none⟩ = some (.bool false) ∧ w'.cell? ⟨hh, i * 4 + 3, none⟩ = some (.slice A3 x.bad.length c3)) := fun w' hb => ⟨(hb.cell (lt_of_cell k0)).trans k0, (hb.cell (lt_of_cell k1)).trans k1, (hb.cell (lt_of_cell k2)).trans k2, (hb.cell (lt_of_cell k3)).trans k3, (hb.cell (lt_of_cell k4)).trans k4, (hb.cell (lt_of_cell k5)).trans k5, (hb.cell (lt_of_cell k6)).trans k6, (hb.cell (lt_of_cell k7)).trans k7, (hb.cell (lt_of_cell k8)).trans k8, (hb.cell (lt_of_cell k9)).trans k9, (hb.cell (lt_of_cell k10)).trans k10, (hb.cell (lt_of_cell k11)).trans k11, (hb.cell (lt_of_cell k12)).trans k12, (hb.cell (lt_of_cell m0)).trans m0, (hb.cell (lt_of_cell m1)).trans m1, (hb.cell (lt_of_cell m2)).trans m2, (hb.cell (lt_of_cell m3)).trans m3⟩
     replace HALL := Aside0.mk HALL
     clear m0 m1 m2 m3 k0 k1 k2 k3 k4 k5 k6 k7 k8 k9 k10 k11 k12
     refine wp_region_seqp (fun w' => Below w2.heap.size w2 w') [14] [(0, 2), (1, 2), (2, 2), (4, 2), (5, 2), (6, 2), (7, 2), (9, 2), (3, 1), (8, 1), (10, 2), (11, 1), (12, 0), (13, 2), (14, 0)] (by kernel_rfl) (by kernel_rfl) ?_
     have hS : Below w2.heap.size w2 w2.drew := Below.drew (Below.refl _ _)
     repeat ((first | (refine seqp_pure rfl (fun _ _ _ h => h) (by rfl) (fun w_ => by go_simp; first | done | with_reducible rfl) ?_) | (refine seqp_take hS rfl (fun _ _ _ h => h) (by rfl) (fun w_ hSw => by have hSc := HALL.out w_ hSw; clear hSw; go_simp; first | done | with_reducible rfl) ?_) | (refine seqp_skip2 rfl (fun _ _ _ h => h) (by rfl) ?_) | (refine seqp_skip1 hS rfl (fun _ _ _ h => h) (by rfl) ?_) | (refine seqp_skip0 rfl (by rfl) ?_)); (try simp only [Act.put, qqP]))
     refine seqp_step rfl (fun K hK => ?_)
     go_simp
     go_at_call 103; refine (c_implFlushMem (MemR_below RM.out hS) HXS.out).mono ?_; rintro e w3 ⟨u3, F3, rfl, hn3⟩; have hs3 := (HS2.out.below hS).new hn3; have hb := hn3.below; obtain ⟨E1, f1, E2, f2, E3, f3, rfl⟩ := me_form hs3; have HS3 := Aside0.mk hs3; clear hs3 hn3
     replace hS := hS.trans (hb.mono hS.size); clear hb; refine hK.out _ _ ⟨fun _ _ => hS, ?_⟩; clear hK K; (try simp only [Act.put, qqP])
     repeat ((first | (refine seqp_pure rfl (fun _ _ _ h => h) (by rfl) (fun w_ => by go_simp; first | done | with_reducible rfl) ?_) | (refine seqp_take hS rfl (fun _ _ _ h => h) (by rfl) (fun w_ hSw => by have hSc := HALL.out w_ hSw; clear hSw; go_simp; first | done | with_reducible rfl) ?_) | (refine seqp_skip2 rfl (fun _ _ _ h => h) (by rfl) ?_) | (refine seqp_skip1 hS rfl (fun _ _ _ h => h) (by rfl) ?_) | (refine seqp_skip0 rfl (by rfl) ?_)); (try simp only [Act.put, qqP]))
     obtain ⟨hz9, B1, d1, B2, d2, B3, d3, m0, m1, m2, m3, hM9, hfr⟩ := mem_at (HS3.out.get 2 rfl) HX.out
     clear hz9 hM9
     have z0 := hfr 0
     rw [Nat.add_zero] at z0
     have z1 := hfr 1
     have z2 := hfr 2
     have z3 := hfr 3
     clear hfr
     refine seqp_step rfl (fun K hK => ?_)
     go_simp
     refine hK.out _ _ ⟨(fun h => (by cases h)), ?_⟩; clear hK K; (try simp only [Act.put, qqP])
     clear hS HALL
     refine seqp_done ?_
     obtain ⟨F5, hput⟩ := Sep.put (d := oMem) (i := i) (y := flushV x) (us := [.slice E1 (flushV x).secs.length f1, .slice E2 (flushV x).cache.length f2, .bool (flushV x).failed, .slice E3 (flushV x).bad.length f3]) (HS3.out.selT 3 [2, 0, 1] (by decide) (by simp <;> omega)) (by have := HSL.out; omega) (oMem_M.2 (HS3.out.get 0 rfl))
     simp only [qqN, qqT] at hput
     have hq := hput.selT 2 [1, 0] (by decide) (by simp <;> omega)
     simp only [qqN, qqT] at hq
     have HE := Aside0.mk hq
     clear hput hq m0 m1 m2 m3 z0 z1 z2 z3
     go_wp2
     go_roundw
     case rel =>
      refine ⟨i + 1, setM ov i (flushV x), F5, by omega, by go_num, ⟨by rw [syncN, HST.out, turnV_yes HX.out HXF.out HOB.out, HOV.out]⟩, ⟨HDO.out⟩, ⟨?_⟩⟩
      show Sep w0 S _ (bx g 34 (arrC ov (.slice (some ⟨hh, 0, none⟩) a.mems.length c) vd) :: rw_ oMem 89 F5 (.slice (some ⟨hh, 0, none⟩) a.mems.length c) (ov.mems.set i (flushV x)) :: L)
      rw [HOM.out]
      exact HE.out
     case measure => simp [intOf]; omega
   ·go_wp2
    go_roundw
    case rel => exact ⟨i + 1, st, F', by omega, by go_num, ⟨by rw [syncN, HST.out]; exact turnV_failed HX.out HXF.out⟩, HD, HR⟩
    case measure => simp [intOf]; omega
  ·obtain rfl : i = a.mems.length := by omega
   have HV := Aside0.mk (show syncV a = st from HST.out)
   go_wp2
   go_ret
   rw [HV.out, HD.out]
   first | exact ⟨_, rfl, HR.out⟩ | exact ⟨rfl, _, HR.out⟩
set_option maxHeartbeats 8000000 in
set_option maxRecDepth 100000 in
theorem c_specSyncF {w0 w : World} {S : List Nat} {L : List Res} {g hh n c : Nat} {F : List Nat} {vd : Value} {a : ArrV} (hs : Sep w0 S w (bx g 34 (arrC a (.slice (some ⟨hh, 0, none⟩) n c) vd) :: rw_ oMem 89 F (.slice (some ⟨hh, 0, none⟩) n c) a.mems :: L)) (hn : n = a.mems.length) (hml : a.mems.length ≤ 16777216) (hfu : a.fuse ≤ 1000) (hsm : ∀ m ∈ a.mems, Small m) :
  Calls Tryz.prog 60 #[.pointer (some ⟨g, 0, none⟩)] w fun e w' => ∃ F', e = .returned (.tuple #[]) ∧ Sep w0 S w' (bx g 34 (arrC (syncV a) (.slice (some ⟨hh, 0, none⟩) n c) vd) :: rw_ oMem 89 F' (.slice (some ⟨hh, 0, none⟩) n c) (syncV a).mems :: L) := by
 have HSM := Aside0.mk hsm
 have HFU := Aside0.mk hfu
 have HN := Aside0.mk hn
 have HM1 := Aside0.mk hml
 have H0 := Aside0.mk hs
 obtain ⟨k0, k1, k2, k3, k4, k5, k6, k7, k8, k9, k10, k11, k12⟩ := thirteen (hs.get 0 rfl)
 subst hn
 clear hs hsm hfu
 go_enter Tryz.func60, Tryz.ntmps60
 go_wp2
 go_loopw [2] (fun v9 wr => ∃ (i : Nat) (st : ArrV) (F' : List Nat), i ≤ a.mems.length ∧ v9 = .int .i64 i ∧ Aside0 (syncN a i = st) ∧ Aside0 (Sep w0 S wr (bx g 34 (arrC st (.slice (some ⟨hh, 0, none⟩) a.mems.length c) vd) :: rw_ oMem 89 F' (.slice (some ⟨hh, 0, none⟩) a.mems.length c) st.mems :: L))) (fun v9 _ => a.mems.length - (intOf v9).toNat)
 case atStart => exact ⟨0, a, F, by omega, rfl, ⟨rfl⟩, H0⟩
 case round =>
  clear H0 k0 k1 k2 k3 k4 k5 k6 k7 k8 k9 k10 k11 k12
  obtain ⟨i, st, F', hi, rfl, HST, HR⟩ := hrel
  have hsl : st.mems.length = a.mems.length := by rw [← HST.out]; exact syncN_len a i
  have HFS := Aside0.mk (show st.fuse ≤ 1000 by rw [← HST.out]; exact syncN_fuse HFU.out i)
  have HSS := Aside0.mk (show ∀ m ∈ st.mems, Small m by rw [← HST.out]; exact syncN_small HSM.out i)
  have HSL := Aside0.mk hsl
  clear hsl
  obtain ⟨k0, k1, k2, k3, k4, k5, k6, k7, k8, k9, k10, k11, k12⟩ := thirteen (HR.out.get 0 rfl)
  by_cases hlt : i < a.mems.length
  ·obtain ⟨x, hx⟩ : ∃ x, st.mems[i]? = some x := ⟨_, List.getElem?_eq_getElem (by have := HSL.out; omega)⟩
   obtain ⟨hz9, A1, c1, A2, c2, A3, c3, m0, m1, m2, m3, hM, hfr⟩ := mem_at (HR.out.get 1 rfl) hx
   clear hz9 hM hfr
   have HX := Aside0.mk hx
   have hxs := HSS.out x (List.mem_of_getElem? hx)
   have HXS := Aside0.mk hxs
   clear hxs
   have i0 : (0 : Int) ≤ (i : Int) := by omega
   have il : (i : Int) < (a.mems.length : Int) := by omega
   generalize hxf : x.failed = xf at *
   have HXF := Aside0.mk hxf
   clear hxf
   cases xf
   ·obtain ⟨ov, hov⟩ : ∃ ov, opV st = ov := ⟨_, rfl⟩
    have HOV := Aside0.mk hov
    have HOM := Aside0.mk (show ov.mems = st.mems by rw [← HOV.out]; exact opV_mems st)
    clear hov
    cases hob : opB st
    ·have HOB := Aside0.mk hob
     clear hob
     go_wp2_with (first
      | (go_at_call 107; refine (c_specOp HR.out HFS.out).mono ?_; rw [HOB.out, HOV.out]; rintro e w2 ⟨rfl, hs2⟩; have HS2 := Aside0.mk hs2; clear hs2 m0 m1 m2 m3 k0 k1 k2 k3 k4 k5 k6 k7 k8 k9 k10 k11 k12; obtain ⟨k0, k1, k2, k3, k4, k5, k6, k7, k8, k9, k10, k11, k12⟩ := thirteen (HS2.out.get 0 rfl))
      | fail)
     go_roundw
     case rel => exact ⟨i + 1, ov, F', by omega, by go_num, ⟨by rw [syncN, HST.out]; exact (turnV_no HX.out HXF.out HOB.out).trans HOV.out⟩, ⟨by rw [HOM.out]; exact HS2.out⟩⟩
     case measure => simp [intOf]; omega
    ·have HOB := Aside0.mk hob
     clear hob
     go_upto_region 4 with (first
      | (go_at_call 107; refine (c_specOp HR.out HFS.out).mono ?_; rw [HOB.out, HOV.out]; rintro e w2 ⟨rfl, hs2⟩; have HS2 := Aside0.mk hs2; clear hs2 m0 m1 m2 m3 k0 k1 k2 k3 k4 k5 k6 k7 k8 k9 k10 k11 k12; obtain ⟨k0, k1, k2, k3, k4, k5, k6, k7, k8, k9, k10, k11, k12⟩ := thirteen (HS2.out.get 0 rfl))
      | fail)
     obtain ⟨hz9, A1, c1, A2, c2, A3, c3, m0, m1, m2, m3, hM, hfr⟩ := mem_at (HS2.out.get 1 rfl) HX.out
     rw [HXF.out] at m2 hM
     have RM := Aside0.mk hM
     have HFR := Aside0.mk hfr
     clear hz9 hM hfr
     have HALL : ∀ w' : World, Below w2.heap.size w2 w' → (w'.cell? ⟨g, 0, none⟩ = some (.int .i64 ov.id) ∧ w'.cell? ⟨g, 1, none⟩ = some (.int .i64 ov.gn) ∧ w'.cell? ⟨g, 2, none⟩ = some (.int .i64 ov.gs) ∧ w'.cell? ⟨g, 3, none⟩ = some (.slice (some ⟨hh, 0, none⟩) a.mems.length c) ∧ w'.cell? ⟨g, 4, none⟩ = some (.int .i64 ov.lost) ∧ w'.cell? ⟨g, 5, none⟩ = some (.int .i64 ov.built) ∧ w'.cell? ⟨g, 6, none⟩ = some (.int .i64 ov.seq) ∧ w'.cell? ⟨g, 7, none⟩ = some (.int .i64 ov.tail) ∧ w'.cell? ⟨g, 8, none⟩ = some (.int .i64 ov.gen) ∧ w'.cell? ⟨g, 9, none⟩ = some (vd) ∧ w'.cell? ⟨g, 10, none⟩ = some (.int .i64 ov.fuse) ∧ w'.cell? ⟨g, 11, none⟩ = some (.bool ov.down) ∧ w'.cell? ⟨g, 12, none⟩ = some (.bool ov.broken) ∧ w'.cell? ⟨hh, i * 4, none⟩ = some (.slice A1 x.secs.length c1) ∧ w'.cell? ⟨hh, i * 4 + 1, none⟩ = some (.slice A2 x.cache.length c2) ∧ w'.cell? ⟨hh, i * 4 + 2, none⟩ = some (.bool false) ∧ w'.cell? ⟨hh, i * 4 + 3, none⟩ = some (.slice A3 x.bad.length c3)) := fun w' hb => ⟨(hb.cell (lt_of_cell k0)).trans k0, (hb.cell (lt_of_cell k1)).trans k1, (hb.cell (lt_of_cell k2)).trans k2, (hb.cell (lt_of_cell k3)).trans k3, (hb.cell (lt_of_cell k4)).trans k4, (hb.cell (lt_of_cell k5)).trans k5, (hb.cell (lt_of_cell k6)).trans k6, (hb.cell (lt_of_cell k7)).trans k7, (hb.cell (lt_of_cell k8)).trans k8, (hb.cell (lt_of_cell k9)).trans k9, (hb.cell (lt_of_cell k10)).trans k10, (hb.cell (lt_of_cell k11)).trans k11, (hb.cell (lt_of_cell k12)).trans k12, (hb.cell (lt_of_cell m0)).trans m0, (hb.cell (lt_of_cell m1)).trans m1, (hb.cell (lt_of_cell m2)).trans m2, (hb.cell (lt_of_cell m3)).trans m3⟩
     replace HALL := Aside0.mk HALL
     clear m0 m1 m2 m3 k0 k1 k2 k3 k4 k5 k6 k7 k8 k9 k10 k11 k12
     refine wp_region_seqp (fun w' => Below w2.heap.size w2 w') [14] [(0, 2), (1, 2), (2, 2), (4, 2), (5, 2), (6, 2), (7, 2), (9, 2), (3, 1), (8, 1), (10, 2), (11, 1), (12, 0), (13, 2), (14, 0)] (by kernel_rfl) (by kernel_rfl) ?_
     have hS : Below w2.heap.size w2 w2.drew := Below.drew (Below.refl _ _)
     repeat ((first | (refine seqp_pure rfl (fun _ _ _ h => h) (by rfl) (fun w_ => by go_simp; first | done | with_reducible rfl) ?_) | (refine seqp_take hS rfl (fun _ _ _ h => h) (by rfl) (fun w_ hSw => by have hSc := HALL.out w_ hSw; clear hSw; go_simp; first | done | with_reducible rfl) ?_) | (refine seqp_skip2 rfl (fun _ _ _ h => h) (by rfl) ?_) | (refine seqp_skip1 hS rfl (fun _ _ _ h => h) (by rfl) ?_) | (refine seqp_skip0 rfl (by rfl) ?_)); (try simp only [Act.put, qqP]))
     refine seqp_step rfl (fun K hK => ?_)
     go_simp
     go_at_call 108; refine (c_specFlushMem (MemR_below RM.out hS) HXS.out).mono ?_; rintro e w3 ⟨u3, F3, rfl, hn3⟩; have hs3 := (HS2.out.below hS).new hn3; have hb := hn3.below; obtain ⟨E1, f1, E2, f2, E3, f3, rfl⟩ := me_form hs3; have HS3 := Aside0.mk hs3; clear hs3 hn3
     replace hS := hS.trans (hb.mono hS.size); clear hb; refine hK.out _ _ ⟨fun _ _ => hS, ?_⟩; clear hK K; (try simp only [Act.put, qqP])
     repeat ((first | (refine seqp_pure rfl (fun _ _ _ h => h) (by rfl) (fun w_ => by go_simp; first | done | with_reducible rfl) ?_) | (refine seqp_take hS rfl (fun _ _ _ h => h) (by rfl) (fun w_ hSw => by have hSc := HALL.out w_ hSw; clear hSw; go_simp; first | done | with_reducible rfl) ?_) | (refine seqp_skip2 rfl (fun _ _ _ h => h) (by rfl) ?_) | (refine seqp_skip1 hS rfl (fun _ _ _ h => h) (by rfl) ?_) | (refine seqp_skip0 rfl (by rfl) ?_)); (try simp only [Act.put, qqP]))
     obtain ⟨hz9, B1, d1, B2, d2, B3, d3, m0, m1, m2, m3, hM9, hfr⟩ := mem_at (HS3.out.get 2 rfl) HX.out
     clear hz9 hM9
     have z0 := hfr 0
     rw [Nat.add_zero] at z0
     have z1 := hfr 1
     have z2 := hfr 2
     have z3 := hfr 3
     clear hfr
     refine seqp_step rfl (fun K hK => ?_)
     go_simp
     refine hK.out _ _ ⟨(fun h => (by cases h)), ?_⟩; clear hK K; (try simp only [Act.put, qqP])
     clear hS HALL
     refine seqp_done ?_
     obtain ⟨F5, hput⟩ := Sep.put (d := oMem) (i := i) (y := flushV x) (us := [.slice E1 (flushV x).secs.length f1, .slice E2 (flushV x).cache.length f2, .bool (flushV x).failed, .slice E3 (flushV x).bad.length f3]) (HS3.out.selT 3 [2, 0, 1] (by decide) (by simp <;> omega)) (by have := HSL.out; omega) (oMem_M.2 (HS3.out.get 0 rfl))
     simp only [qqN, qqT] at hput
     have hq := hput.selT 2 [1, 0] (by decide) (by simp <;> omega)
     simp only [qqN, qqT] at hq
     have HE := Aside0.mk hq
     clear hput hq m0 m1 m2 m3 z0 z1 z2 z3
     go_wp2
     go_roundw
     case rel =>
      refine ⟨i + 1, setM ov i (flushV x), F5, by omega, by go_num, ⟨by rw [syncN, HST.out, turnV_yes HX.out HXF.out HOB.out, HOV.out]⟩, ⟨?_⟩⟩
      show Sep w0 S _ (bx g 34 (arrC ov (.slice (some ⟨hh, 0, none⟩) a.mems.length c) vd) :: rw_ oMem 89 F5 (.slice (some ⟨hh, 0, none⟩) a.mems.length c) (ov.mems.set i (flushV x)) :: L)
      rw [HOM.out]
      exact HE.out
     case measure => simp [intOf]; omega
   ·go_wp2
    go_roundw
    case rel => exact ⟨i + 1, st, F', by omega, by go_num, ⟨by rw [syncN, HST.out]; exact turnV_failed HX.out HXF.out⟩, HR⟩
    case measure => simp [intOf]; omega
  ·obtain rfl : i = a.mems.length := by omega
   have HV := Aside0.mk (show syncV a = st from HST.out)
   go_wp2
   go_end0
   rw [HV.out]
   first | exact ⟨_, rfl, HR.out⟩ | exact ⟨rfl, _, HR.out⟩
end ASyncF
end Go.Proofs.YtggmifnblcjdfaaGreat
