/- A whole element stored into an owned row; rows of slices and of entries made by a loop. -/
import Derived.Test.YtlmnmcfieagmbaaMRead
namespace Go.Proofs.Ytlmnmcfieagmbaa.MPut
open Go.RowKit Go.Proofs.YtlmnmcfieagmbaaW.PrintWords Go.Proofs.Ytlmnmcfieagmbaa.Fp Go.Proofs.Ytlmnmcfieagmbaa.MInt Go.Proofs.Ytlmnmcfieagmbaa.MKinds Go.Proofs.Ytlmnmcfieagmbaa.MRead Go.Proofs.Ytlmnmcfieagmbaa.MMake
set_option linter.unusedVariables false
set_option linter.unusedSimpArgs false
/-- Cells stored one behind the other. -/
def setRun (w : World) (g o : Nat) : List Value → World
  | [] => w
  | u :: us => setRun (w.setCell ⟨g, o, none⟩ u) g (o + 1) us
def setL (cs : List Value) (o : Nat) : List Value → List Value
  | [] => cs
  | u :: us => setL (cs.set o u) (o + 1) us
theorem setL_length (us : List Value) : ∀ (cs : List Value) (o : Nat), (setL cs o us).length = cs.length := by
  induction us with
  | nil => intro cs o; rfl
  | cons u us ih => intro cs o; rw [setL, ih, List.length_set]
theorem setL_get (us : List Value) : ∀ (cs : List Value) (o m : Nat), o + us.length ≤ cs.length → (setL cs o us)[m]? = if o ≤ m ∧ m < o + us.length then us[m - o]? else cs[m]? := by
  induction us with
  | nil => intro cs o m _; rw [setL, if_neg (by simp only [List.length_nil]; omega)]
  | cons u us ih =>
    intro cs o m h
    simp only [List.length_cons] at h
    rw [setL, ih _ _ _ (by rw [List.length_set]; omega)]
    by_cases h1 : o + 1 ≤ m ∧ m < o + 1 + us.length
    · rw [if_pos h1, if_pos (by simp; omega)]
      rw [show m - o = (m - (o + 1)) + 1 by omega, List.getElem?_cons_succ]
    · rw [if_neg h1]
      by_cases h2 : m = o
      · subst h2
        rw [if_pos (by simp), Nat.sub_self, List.getElem?_set_self (by omega)]; rfl
      · rw [if_neg (by simp; omega), List.getElem?_set_ne (by omega)]
theorem own_setRun {base : Nat} {e : TypeId} {size g n cap : Nat} (us : List Value) : ∀ (w : World) (cs : List Value) (o : Nat), w.ownsRow base e size (.slice (some ⟨g, 0, none⟩) n cap) n cs → (setRun w g o us).ownsRow base e size (.slice (some ⟨g, 0, none⟩) n cap) n (setL cs o us) := by
  induction us with
  | nil => intro w cs o h; exact h
  | cons u us ih => intro w cs o h; exact ih _ _ _ (h.stored o u).1
theorem block_setRun {g k : Nat} (hk : k ≠ g) (us : List Value) : ∀ (w : World) (o : Nat), (setRun w g o us).heap[k]? = w.heap[k]? := by
  induction us with
  | nil => intro w o; rfl
  | cons u us ih => intro w o; rw [setRun, ih]; exact Below.heap_setCell _ _ _ _ hk
theorem chg_setRun {S : List Nat} {a : World} {g : Nat} (hg : g ∈ S ∨ a.heap.size ≤ g) (us : List Value) : ∀ (w : World) (o : Nat), Chg S a w → Chg S a (setRun w g o us) := by
  induction us with
  | nil => intro w o h; exact h
  | cons u us ih => intro w o h; exact ih _ _ (h.set hg u)
theorem set_split {β : Type} {A B : List β} {x y : β} : (A ++ x :: B).set A.length y = A ++ y :: B := by simp
/-- An element stored into an owned row; what it owned before is let go. -/
theorem O_put {α : Type} {d : Od α} {e : TypeId} {w : World} {F : List Nat} {g n cap : Nat} {xs : List α} (h : d.O e w F (.slice (some ⟨g, 0, none⟩) n cap) xs) (hnd : F.Nodup) {i : Nat} (hi : i < xs.length)
    {y : α} {G : List Nat} {us : List Value} (hy : d.M w G y us) (hG : G.Nodup) (hd : ∀ k ∈ G, k ∉ F) :
    ∃ F', d.O e (setRun w g (i * d.sz) us) F' (.slice (some ⟨g, 0, none⟩) n cap) (xs.set i y) ∧ F'.Nodup ∧ ∀ k ∈ F', k ∈ F ∨ k ∈ G := by
  obtain ⟨cs, Fs, hr, hl, rfl, hM⟩ := h
  have hn : n = xs.length := by
    rcases hr.2 with ⟨h', _⟩ | ⟨_, _, _, h', _⟩ <;> simp at h'
    exact h'.2.1
  subst hn
  have hlu : us.length = d.sz := d.M_len hy
  obtain ⟨A, B, hAB, hA⟩ := split_at_ (List.getElem?_eq_getElem (show i < Fs.length by omega))
  generalize Fs[i]'(by omega) = G0 at hAB
  subst hAB
  have hcs : cs.length = xs.length * d.sz := hr.1
  have hfit : i * d.sz + us.length ≤ cs.length := by
    have : (i + 1) * d.sz ≤ xs.length * d.sz := Nat.mul_le_mul_right _ hi
    rw [Nat.succ_mul] at this; omega
  simp only [Value.ownBlock, Option.toList_some, List.flatten_append, List.flatten_cons, List.singleton_append, List.nodup_cons, List.nodup_append] at hnd
  obtain ⟨hg0, nA, ⟨nG0, nB, dGB⟩, dA⟩ := hnd
  have hgG : g ∉ G := fun hk => hd g hk (by simp [Value.ownBlock])
  have dGA : ∀ k ∈ G, k ∉ A.flatten := fun k hk hk' => hd k hk (by simp only [List.flatten_append, List.mem_append]; exact .inr (.inl hk'))
  have dGB' : ∀ k ∈ G, k ∉ B.flatten := fun k hk hk' => hd k hk (by simp only [List.flatten_append, List.flatten_cons, List.mem_append]; exact .inr (.inr (.inr hk')))
  refine ⟨_, ⟨setL cs (i * d.sz) us, A ++ G :: B, ?_, by simpa using hl, rfl, fun j z H hz hH => ?_⟩, ?_, fun k hk => ?_⟩
  · rw [List.length_set]
    exact own_setRun us w cs _ hr
  · have hjl : j < xs.length := by have := (List.getElem?_eq_some_iff.1 hz).1; rwa [List.length_set] at this
    by_cases hj : j = i
    · subst hj
      rw [List.getElem?_set_self hi] at hz
      have hH' : (A ++ G :: B)[j]? = some G := by rw [List.getElem?_append_right (by omega)]; simp [hA]
      rw [hH'] at hH
      cases hz; cases hH
      have e1 : seg d.sz j (setL cs (j * d.sz) us) = us := by
        apply List.ext_getElem?
        intro m
        rcases Nat.lt_or_ge m d.sz with hm | hm
        · rw [seg_get (n := xs.length) (by rw [setL_length]; exact hcs) hi hm, setL_get _ _ _ _ hfit, if_pos (by omega), Nat.add_sub_cancel_left]
        · rw [List.getElem?_eq_none (by rw [seg_length (n := xs.length) (by rw [setL_length]; exact hcs) hi]; omega), List.getElem?_eq_none (by omega)]
      rw [e1]
      exact d.M_move hy (fun k hk => block_setRun (fun e => hgG (by rw [← e]; exact hk)) us w _)
    · rw [List.getElem?_set_ne (Ne.symm hj)] at hz
      rw [get_mid (x := G0) (by omega)] at hH
      have e1 : seg d.sz j (setL cs (i * d.sz) us) = seg d.sz j cs := by
        apply List.ext_getElem?
        intro m
        rcases Nat.lt_or_ge m d.sz with hm | hm
        · rw [seg_get (n := xs.length) (by rw [setL_length]; exact hcs) hjl hm, seg_get (n := xs.length) hcs hjl hm, setL_get _ _ _ _ hfit, if_neg]
          rintro ⟨q1, q2⟩
          rcases Nat.lt_or_gt_of_ne hj with h | h
          · have : (j + 1) * d.sz ≤ i * d.sz := Nat.mul_le_mul_right _ h
            rw [Nat.succ_mul] at this; omega
          · have : (i + 1) * d.sz ≤ j * d.sz := Nat.mul_le_mul_right _ h
            rw [Nat.succ_mul] at this; omega
        · rw [List.getElem?_eq_none (by rw [seg_length (n := xs.length) (by rw [setL_length]; exact hcs) hjl]; omega), List.getElem?_eq_none (by rw [seg_length (n := xs.length) hcs hjl]; omega)]
      rw [e1]
      refine d.M_move (hM j z H hz hH) (fun k hk => block_setRun (fun e => ?_) us w _)
      subst e
      apply hg0
      rcases Nat.lt_or_ge j A.length with hlt | hge
      · rw [List.getElem?_append_left hlt] at hH
        exact List.mem_append_left _ (List.mem_flatten.2 ⟨H, List.mem_of_getElem? hH, hk⟩)
      · rw [List.getElem?_append_right hge] at hH
        exact List.mem_append_right _ (by rw [← List.flatten_cons]; exact List.mem_flatten.2 ⟨H, List.mem_of_getElem? hH, hk⟩)
  · simp only [Value.ownBlock, Option.toList_some, List.flatten_append, List.flatten_cons, List.singleton_append, List.nodup_cons, List.nodup_append]
    refine ⟨?_, nA, ⟨hG, nB, fun a ha b hb e => dGB' a ha (e ▸ hb)⟩, fun a ha b hb e => ?_⟩
    · simp only [List.mem_append, not_or] at hg0 ⊢
      exact ⟨hg0.1, hgG, hg0.2.2⟩
    · subst e
      rcases List.mem_append.1 hb with hb | hb
      · exact dGA a hb ha
      · exact dA a ha a (List.mem_append_right _ hb) rfl
  · simp only [List.flatten_append, List.flatten_cons, List.mem_append] at hk ⊢
    rcases hk with h | h | h | h
    · exact .inl (.inl h)
    · exact .inl (.inr (.inl h))
    · exact .inr h
    · exact .inl (.inr (.inr (.inr h)))
/-- The cells of an element may be stored into. -/
theorem O_cells {α : Type} {d : Od α} {e : TypeId} {w : World} {F : List Nat} {g n cap : Nat} {xs : List α} (h : d.O e w F (.slice (some ⟨g, 0, none⟩) n cap) xs) {i : Nat} (hi : i < xs.length) {t : Nat} (ht : t < d.sz) :
    ∃ u, w.cell? ⟨g, i * d.sz + t, none⟩ = some u ∧ w.frozen? ⟨g, i * d.sz + t, none⟩ = false := by
  obtain ⟨c, G, hM, _, hc, hf, _⟩ := O_elem h (List.getElem?_eq_getElem hi)
  have hl := d.M_len hM
  exact ⟨_, hc t _ (List.getElem?_eq_getElem (by omega)), hf t⟩
theorem blk_ne {w : World} {g : Nat} {o : Obj} {p : Addr} {u : Value} (hp : g ≠ p.block) (h : w.heap[g]? = some o) : (w.setCell p u).heap[g]? = some o := (Below.heap_setCell _ _ _ _ hp).trans h
theorem lt_app {n : Nat} {F G : List Nat} (h1 : ∀ k ∈ F, k < n) (h2 : ∀ k ∈ G, k < n) : ∀ k ∈ F ++ G, k < n := fun k hk => by
  rcases List.mem_append.1 hk with hk | hk
  · exact h1 k hk
  · exact h2 k hk
theorem fresh_app {w w2 : World} {F G : List Nat} (hF : Fresh w F) (hlt : ∀ k ∈ F, k < w2.heap.size) (hG : Fresh w2 G) (hs : w.heap.size ≤ w2.heap.size) : Fresh w (F ++ G) :=
  hF.append (hG.elder hs) (fun k hk hk' => by have := hG.2 k hk'; have := hlt k hk; omega)
theorem boxes3 {w W : World} {o1 o2 o3 : Obj} (hb : Below (((w.alloc o1).alloc o2).alloc o3).heap.size (((w.alloc o1).alloc o2).alloc o3) W) : W.heap[w.heap.size + 1]? = some o2 ∧ W.heap[w.heap.size + 1 + 1]? = some o3 ∧ Below w.heap.size w W := by
  have h2 := blk_below (blk_below (blk_new (w.alloc o1) o2) (below_alloc (Below.refl _ _) o3)) hb
  have h3 := blk_below (blk_new ((w.alloc o1).alloc o2) o3) hb
  exact ⟨by simpa using h2, by simpa using h3, below_next (below_alloc (below_alloc (below_alloc (Below.refl _ _) _) _) _) hb⟩
theorem boxes3' {w W : World} {o1 o2 o3 : Obj} (hb : Below (((w.alloc o1).alloc o2).alloc o3).heap.size (((w.alloc o1).alloc o2).alloc o3) W) : W.heap[w.heap.size]? = some o1 ∧ W.heap[w.heap.size + 1]? = some o2 ∧ W.heap[w.heap.size + 1 + 1]? = some o3 ∧ Below w.heap.size w W := by
  have h1 := blk_below (blk_below (blk_below (blk_new w o1) (below_alloc (Below.refl _ _) o2)) (below_alloc (Below.refl _ _) o3)) hb
  exact ⟨h1, boxes3 hb⟩
/-- Lengths that a make or an append bears. -/
def Small (m : MemV) : Prop := m.secs.length ≤ 16777216 ∧ (∀ x ∈ m.secs, x.length ≤ 16777216) ∧ m.cache.length ≤ 16777216 ∧ (∀ x ∈ m.cache, x.2.length ≤ 16777216) ∧ m.bad.length ≤ 16777216
set_option maxHeartbeats 1000000 in
set_option maxRecDepth 100000 in
theorem c_toIntSS {w : World} {v : Value} {xs : List (List Int)} (h : RK kSec w v xs) (hl : xs.length ≤ 16777216) (hl2 : ∀ x ∈ xs, x.length ≤ 16777216) :
    Calls Try.prog 98 #[v] w fun e w' => ∃ u F, e = .returned u ∧ oSec.O 24 w' F u xs ∧ Fresh w F ∧ Below w.heap.size w w' := by
  have lx := RK_len h
  obtain ⟨A, ca, rfl, hr⟩ := id h
  have H := Aside0.mk h
  have HL := Aside0.mk hl2
  clear h hr hl2
  go_enter Try.func98, Try.ntmps98
  go_wp2_with (first | (at_make; refine make_O oSec rfl rfl 22 24 _ _ rfl xs.length rfl rfl Try.underlying22 (.slice none 0 0) 24 (by kernel_rfl) rfl (by decide) (by decide) [] (fun w' => ⟨_, rfl, O_nil oInt 3 w'⟩) (by omega) ?_; intro w1 ho hb; have HO := Aside0.mk ho; have HB := Aside0.mk hb; clear ho hb) | fail)
  generalize hgs : w.heap.size = g at *
  go_loopw [4] (fun v4 wr => ∃ i : Nat, i ≤ xs.length ∧ v4 = .int .i64 i ∧ ∃ (ys : List (List Int)) (F : List Nat), Aside0 (ys.length = xs.length ∧ ys.take i = xs.take i ∧ oSec.O 24 wr F (.slice (some ⟨g, 0, none⟩) xs.length xs.length) ys ∧ Fresh w F ∧ Below w.heap.size w wr)) (fun v4 _ => xs.length - (intOf v4).toNat)
  case atStart => exact ⟨0, by omega, rfl, List.replicate xs.length [], [g], ⟨by simp, by simp, HO.out, ⟨by simp, by simp [hgs]⟩, by rw [hgs]; exact HB.out⟩⟩
  case round =>
    obtain ⟨i, hi, rfl, ys, F, hr⟩ := hrel
    by_cases hlt : i < xs.length
    · obtain ⟨x, hxi⟩ : ∃ x, xs[i]? = some x := ⟨_, List.getElem?_eq_getElem hlt⟩
      obtain ⟨ad, cap, ha, hc⟩ := RK_slices (RK_below H.out hr.out.2.2.2.2) (by omega)
      cases ha
      obtain ⟨u, cu, ru⟩ := hc i x hxi
      have Ru := Aside0.mk ru
      have hxl := HL.out x (List.mem_of_getElem? hxi)
      have Hxi := Aside0.mk hxi
      clear hc ru hxi
      have hlt' : i < ys.length := by have := hr.out.1; omega
      go_wp2_with (first
        | (go_at_call 100; refine (c_toIntS Ru.out hxl).mono ?_; rintro e w2 ⟨z, G, rfl, hz, hG, hb⟩; have hO2 := O_below hr.out.2.2.1 hb; obtain ⟨Az, cz, rfl, hzz⟩ := O_RK hz; clear hzz; have HZ := Aside0.mk hz; have HG := Aside0.mk hG; have HB2 := Aside0.mk hb; obtain ⟨u0, c1, c2⟩ := O_cells (t := 0) hO2 hlt' (by decide); simp only [show oSec.sz = 1 from rfl, Nat.mul_one, Nat.add_zero] at c1 c2; have HO2 := Aside0.mk hO2; clear hz hG hb hO2)
        | fail)
      go_roundw
      case rel =>
        obtain ⟨h1, h2, h3, h4, h5⟩ := hr.out
        obtain ⟨F', k1, k2, k3⟩ := O_put HO2.out h4.1 hlt' ⟨_, rfl, HZ.out⟩ HG.out.1 (fun k hk hk' => by have := HG.out.2 k hk; have := O_lt h3 k hk'; omega)
        simp only [show oSec.sz = 1 from rfl, Nat.mul_one] at k1
        refine ⟨i + 1, by omega, by go_num, ys.set i x, F', ⟨by simp [h1], ?_, k1, ⟨k2, fun k hk => ?_⟩, ?_⟩⟩
        · rw [List.take_succ_eq_append_getElem (by simp; omega), List.take_set_of_le (Nat.le_refl _), h2, List.getElem_set_self]
          obtain ⟨h6, h7⟩ := List.getElem?_eq_some_iff.1 Hxi.out
          rw [List.take_succ_eq_append_getElem h6, h7]
        · rcases k3 k hk with q | q
          · exact h4.2 k q
          · have := HG.out.2 k q; have := h5.size; omega
        · exact below_set (below_next h5 HB2.out) (by omega)
      case measure => simp [intOf]; omega
    · obtain rfl : i = xs.length := by omega
      go_wp2
      go_ret
      obtain ⟨h2, h3, h4, h5, h6⟩ := hr.out
      rw [List.take_of_length_le (by omega), List.take_of_length_le (by omega)] at h3
      subst h3
      exact ⟨_, _, rfl, h4, h5, h6⟩
set_option maxHeartbeats 1000000 in
theorem c_toWr {w : World} {n : Int} {v : Value} {xs : List Int} (h : RK kInt w v xs) (hl : xs.length ≤ 16777216) :
    Calls Try.prog 144 #[.agg #[.int .i64 n, v]] w fun e w' => ∃ u F, e = .returned (.agg #[.int .i64 n, u]) ∧ oInt.O 3 w' F u xs ∧ Fresh w F ∧ Below w.heap.size w w' := by
  have H := Aside0.mk h
  clear h
  go_enter Try.func144, Try.ntmps144
  go_wp2_with (first
    | (go_at_call 100; refine (c_toIntS (RK_below H.out (below_alloc (below_alloc (below_alloc (Below.refl _ _) _) _) _)) hl).mono ?_; rintro e w1 ⟨z, G, rfl, hz, hG, hb⟩; obtain ⟨g1, g2, hb1⟩ := boxes3 hb; have hG2 := hG.elder (w := w) (by simp; omega); obtain ⟨Az, cz, rfl, hzz⟩ := O_RK hz; clear hzz; have HZ := Aside0.mk hz; have HG := Aside0.mk hG2; have HB := Aside0.mk hb1; have G1 := Aside0.mk g1; have G2 := Aside0.mk g2; obtain ⟨k1, k2⟩ := two g1; obtain ⟨l1, l2⟩ := two g2; have f1 := blk_frozen g1; have f2 := blk_frozen g2; have hdg : ∀ k ∈ G, k ≠ w.heap.size + 1 ∧ k ≠ w.heap.size + 1 + 1 := (fun k hk => by have := hG.2 k hk; simp at this; omega); have HD := Aside0.mk hdg; clear hz hG hb hb1 hG2 hdg)
    | fail)
  refine bodyPost_ret (results_cell_row rfl _ _ (w.heap.size + 1) 66 #[.int .i64 n, .slice Az xs.length cz] (0, 0) _ rfl (blk_set (blk_set (blk_ne (by simp) G1.out) 0 _) 1 _) Try.underlying66 rfl (by kernel_rfl)) rfl ?_
  have hc : Chg [w.heap.size + 1, w.heap.size + 1 + 1] w1 (((w1.setCell ⟨w.heap.size + 1 + 1, 1, none⟩ (.slice Az xs.length cz)).setCell ⟨w.heap.size + 1, 0, none⟩ (.int .i64 n)).setCell ⟨w.heap.size + 1, 1, none⟩ (.slice Az xs.length cz)) :=
    (((Chg.refl _ _).set (.inl (by simp)) _).set (.inl (by simp)) _).set (.inl (by simp)) _
  exact ⟨_, _, rfl, O_chg HZ.out hc (fun k hk hk' => by have := HD.out k hk; simp at hk'; omega), HG.out, Chg.below HB.out hc (by intro i hi; simp at hi; omega)⟩
set_option maxHeartbeats 1000000 in
set_option maxRecDepth 100000 in
theorem c_toWrS {w : World} {v : Value} {xs : List (Int × List Int)} (h : RK kWr w v xs) (hl : xs.length ≤ 16777216) (hl2 : ∀ x ∈ xs, x.2.length ≤ 16777216) :
    Calls Try.prog 99 #[v] w fun e w' => ∃ u F, e = .returned u ∧ oWr.O 66 w' F u xs ∧ Fresh w F ∧ Below w.heap.size w w' := by
  have lx := RK_len h
  obtain ⟨A, ca, rfl, hr⟩ := id h
  have H := Aside0.mk h
  have HL := Aside0.mk hl2
  clear h hr hl2
  go_enter Try.func99, Try.ntmps99
  go_wp2_with (first | (at_make; refine make_O oWr rfl rfl 28 66 _ _ rfl xs.length rfl rfl Try.underlying28 (.agg #[.int .i64 0, .slice none 0 0]) 32 (by kernel_rfl) rfl (by decide) (by decide) (0, []) (fun w' => ⟨[], [], [.int .i64 0], [.slice none 0 0], rfl, rfl, ⟨rfl, rfl⟩, _, rfl, O_nil oInt 3 w'⟩) (by omega) ?_; intro w1 ho hb; have HO := Aside0.mk ho; have HB := Aside0.mk hb; clear ho hb) | fail)
  generalize hgs : w.heap.size = g at *
  go_loopw [4] (fun v4 wr => ∃ i : Nat, i ≤ xs.length ∧ v4 = .int .i64 i ∧ ∃ (ys : List (Int × List Int)) (F : List Nat), Aside0 (ys.length = xs.length ∧ ys.take i = xs.take i ∧ oWr.O 66 wr F (.slice (some ⟨g, 0, none⟩) xs.length xs.length) ys ∧ Fresh w F ∧ Below w.heap.size w wr)) (fun v4 _ => xs.length - (intOf v4).toNat)
  case atStart => exact ⟨0, by omega, rfl, List.replicate xs.length (0, []), [g], ⟨by simp, by simp, HO.out, ⟨by simp, by simp [hgs]⟩, by rw [hgs]; exact HB.out⟩⟩
  case round =>
    obtain ⟨i, hi, rfl, ys, F, hr⟩ := hrel
    by_cases hlt : i < xs.length
    · obtain ⟨x, hxi⟩ : ∃ x, xs[i]? = some x := ⟨_, List.getElem?_eq_getElem hlt⟩
      obtain ⟨ad, cap, ha, hc⟩ := RK_wrs (RK_below H.out hr.out.2.2.2.2) (by omega)
      cases ha
      obtain ⟨u, cn, cu, ru⟩ := hc i x hxi
      have Ru := Aside0.mk ru
      have hxl := HL.out x (List.mem_of_getElem? hxi)
      have Hxi := Aside0.mk hxi
      clear hc ru hxi
      have hlt' : i < ys.length := by have := hr.out.1; omega
      go_wp2_with (first
        | (go_at_call 144; refine (c_toWr Ru.out hxl).mono ?_; rintro e w2 ⟨z, G, rfl, hz, hG, hb⟩; have hO2 := O_below hr.out.2.2.1 hb; obtain ⟨Az, cz, rfl, hzz⟩ := O_RK hz; clear hzz; have HZ := Aside0.mk hz; have HG := Aside0.mk hG; have HB2 := Aside0.mk hb; obtain ⟨u0, c1, c2⟩ := O_cells (t := 0) hO2 hlt' (by decide); obtain ⟨u1, d1, d2⟩ := O_cells (t := 1) hO2 hlt' (by decide); simp only [show oWr.sz = 2 from rfl, Nat.add_zero] at c1 c2 d1 d2; have HO2 := Aside0.mk hO2; clear hz hG hb hO2)
        | fail)
      go_roundw
      case rel =>
        obtain ⟨h1, h2, h3, h4, h5⟩ := hr.out
        obtain ⟨F', k1, k2, k3⟩ := O_put (y := x) HO2.out h4.1 hlt' (⟨[], _, [.int .i64 x.1], _, rfl, rfl, ⟨rfl, rfl⟩, _, rfl, HZ.out⟩ : oWr.M _ _ x _) HG.out.1 (fun k hk hk' => by have := HG.out.2 k hk; have := O_lt h3 k hk'; omega)
        simp only [show oWr.sz = 2 from rfl] at k1
        refine ⟨i + 1, by omega, by go_num, ys.set i x, F', ⟨by simp [h1], ?_, k1, ⟨k2, fun k hk => ?_⟩, ?_⟩⟩
        · rw [List.take_succ_eq_append_getElem (by simp; omega), List.take_set_of_le (Nat.le_refl _), h2, List.getElem_set_self]
          obtain ⟨h6, h7⟩ := List.getElem?_eq_some_iff.1 Hxi.out
          rw [List.take_succ_eq_append_getElem h6, h7]
        · rcases k3 k hk with q | q
          · exact h4.2 k q
          · have := HG.out.2 k q; have := h5.size; omega
        · exact below_set (below_set (below_next h5 HB2.out) (by omega)) (by omega)
      case measure => simp [intOf]; omega
    · obtain rfl : i = xs.length := by omega
      go_wp2
      go_ret
      obtain ⟨h2, h3, h4, h5, h6⟩ := hr.out
      rw [List.take_of_length_le (by omega), List.take_of_length_le (by omega)] at h3
      subst h3
      exact ⟨_, _, rfl, h4, h5, h6⟩
set_option maxHeartbeats 2000000 in
theorem c_toMem {w : World} {v : Value} {m : MemV} (h : MemR w v m) (hs : Small m) :
    Calls Try.prog 13 #[v] w fun e w' => ∃ u F, e = .returned u ∧ MemO w' F u m ∧ Fresh w F ∧ Below w.heap.size w w' := by
  obtain ⟨s, c, b, rfl, r1, r2, r3⟩ := h
  have hbb : ∀ W, Below w.heap.size w W → RK kSec W s m.secs ∧ RK kWr W c m.cache ∧ RK kInt W b m.bad := fun W hb => ⟨RK_below r1 hb, RK_below r2 hb, RK_below r3 hb⟩
  have HR := Aside0.mk hbb
  have HS := Aside0.mk hs
  clear r1 r2 r3 hbb hs
  generalize hmf : m.failed = mf
  have Hmf := Aside0.mk hmf
  clear hmf
  go_enter Try.func13, Try.ntmps13
  go_wp2_with (first
    | (go_at_call 98; refine (c_toIntSS (HR.out _ (below_alloc (below_alloc (below_alloc (Below.refl _ _) _) _) _)).1 HS.out.1 HS.out.2.1).mono ?_; rintro e w1 ⟨z, G, rfl, hz, hG, hb⟩; obtain ⟨g0, g1, g2, hb1⟩ := boxes3' hb; have hG2 := hG.elder (w := w) (by simp; omega); obtain ⟨Az, cz, rfl, hzz⟩ := O_RK hz; clear hzz; have HZ := Aside0.mk hz; have HG := Aside0.mk hG2; have HB := Aside0.mk hb1; have G0 := Aside0.mk g0; have G1 := Aside0.mk g1; have G2 := Aside0.mk g2; obtain ⟨k1, k2, k3, k4⟩ := four g0; obtain ⟨l1, l2, l3, l4⟩ := four g2; have f2 := blk_frozen g2; have hdg : ∀ k ∈ G, w.heap.size + 1 + 1 < k := (fun k hk => by have := hG.2 k hk; simp at this; omega); have HD := Aside0.mk hdg; clear hz hG hb hb1 hG2 hdg g0 g1 g2)
    | (go_at_call 99; have hbs := below_set (j := 0) (v := .slice Az m.secs.length cz) HB.out (show w.heap.size ≤ w.heap.size + 1 + 1 by omega); refine (c_toWrS (HR.out _ hbs).2.1 HS.out.2.2.1 HS.out.2.2.2.1).mono ?_; rintro e w2 ⟨z, G', rfl, hz, hG, hb⟩; have g0 := blk_below (blk_ne (p := ⟨w.heap.size + 1 + 1, 0, none⟩) (u := .slice Az m.secs.length cz) (by simp; omega) G0.out) hb; have g1 := blk_below (blk_ne (p := ⟨w.heap.size + 1 + 1, 0, none⟩) (u := .slice Az m.secs.length cz) (by simp) G1.out) hb; have g2 := blk_below (blk_set G2.out 0 (.slice Az m.secs.length cz)) hb; have hz1 := O_below (O_chg HZ.out ((Chg.refl [w.heap.size + 1 + 1] w1).set (p := ⟨w.heap.size + 1 + 1, 0, none⟩) (.inl (by simp)) (.slice Az m.secs.length cz)) (fun k hk hk' => by have := HD.out k hk; simp at hk'; omega)) hb; have hlt1 := O_lt HZ.out; have hb2 := below_next hbs hb; have hG2 := hG.elder (w := w) (by have := HB.out.size; simp; omega); obtain ⟨Az2, cz2, rfl, hzz⟩ := O_RK hz; clear hzz; have HZ1 := Aside0.mk hz1; have HZ2 := Aside0.mk hz; have HG12 := Aside0.mk (HG.out.append hG2 (fun k hk hk' => by have := hG.2 k hk'; have := hlt1 k hk; simp at *; omega)); have HB2 := Aside0.mk hb2; have G02 := Aside0.mk g0; have G12 := Aside0.mk g1; have G22 := Aside0.mk g2; clear k1 k2 k3 k4 l1 l2 l3 l4 f2; obtain ⟨k1, k2, k3, k4⟩ := four g0; obtain ⟨l1, l2, l3, l4⟩ := four (a := .slice Az m.secs.length cz) (b := .slice none 0 0) (c := .bool false) (d := .slice none 0 0) g2; have f2 := blk_frozen g2; have HD2 := Aside0.mk (show ∀ k ∈ G', w.heap.size + 1 + 1 < k from fun k hk => by have := hG.2 k hk; have := blk_lt G2.out; simp at *; omega); clear hz hG hb hb2 hz1 hbs hlt1 hG2 g0 g1 g2)
    | (go_at_call 100; have hbs := below_set (j := 2) (v := .bool mf) (below_set (j := 1) (v := .slice Az2 m.cache.length cz2) HB2.out (show w.heap.size ≤ w.heap.size + 1 + 1 by omega)) (show w.heap.size ≤ w.heap.size + 1 + 1 by omega); refine (c_toIntS (HR.out _ hbs).2.2 HS.out.2.2.2.2).mono ?_; rintro e w3 ⟨z, G3, rfl, hz, hG, hb⟩; have g1 := blk_below (blk_ne (p := ⟨w.heap.size + 1 + 1, 2, none⟩) (u := .bool mf) (by simp) (blk_ne (p := ⟨w.heap.size + 1 + 1, 1, none⟩) (u := .slice Az2 m.cache.length cz2) (by simp) G12.out)) hb; have g2 := blk_below (blk_set (blk_set G22.out 1 (.slice Az2 m.cache.length cz2)) 2 (.bool mf)) hb; have hch := ((Chg.refl [w.heap.size + 1 + 1] w2).set (p := ⟨w.heap.size + 1 + 1, 1, none⟩) (.inl (by simp)) (.slice Az2 m.cache.length cz2)).set (p := ⟨w.heap.size + 1 + 1, 2, none⟩) (.inl (by simp)) (.bool mf); have hz1 := O_below (O_chg HZ1.out hch (fun k hk hk' => by have := HD.out k hk; simp at hk'; omega)) hb; have hz2 := O_below (O_chg HZ2.out hch (fun k hk hk' => by have := HD2.out k hk; simp at hk'; omega)) hb; have hlt1 := O_lt HZ1.out; have hlt2 := O_lt HZ2.out; have hb2 := below_next hbs hb; have hG2 := hG.elder (w := w) (by have := HB2.out.size; simp; omega); obtain ⟨Az3, cz3, rfl, hzz⟩ := O_RK hz; clear hzz; have HX1 := Aside0.mk hz1; have HX2 := Aside0.mk hz2; have HX3 := Aside0.mk hz; have HG3 := Aside0.mk (fresh_app HG12.out (lt_app (fun k hk => by have := hlt1 k hk; simp; omega) (fun k hk => by have := hlt2 k hk; simp; omega)) hG (by have := HB2.out.size; simp; omega)); have HB3 := Aside0.mk hb2; have G13 := Aside0.mk g1; have G23 := Aside0.mk g2; clear k1 k2 k3 k4 l1 l2 l3 l4 f2; obtain ⟨k1, k2, k3, k4⟩ := four g1; obtain ⟨l1, l2, l3, l4⟩ := four (a := .slice Az m.secs.length cz) (b := .slice Az2 m.cache.length cz2) (c := .bool mf) (d := .slice none 0 0) g2; have f2 := blk_frozen g2; have f1 := blk_frozen g1; have HD3 := Aside0.mk (show ∀ k ∈ G3, w.heap.size + 1 + 1 < k from fun k hk => by have := hG.2 k hk; have := blk_lt G22.out; simp at *; omega); clear hz hG hb hb2 hz1 hz2 hch hbs hlt1 hlt2 hG2 g1 g2)
    | fail)
  have hc : Chg [w.heap.size + 1, w.heap.size + 1 + 1] w3 (setRun (w3.setCell ⟨w.heap.size + 1 + 1, 3, none⟩ (.slice Az3 m.bad.length cz3)) (w.heap.size + 1) 0 [.slice Az m.secs.length cz, .slice Az2 m.cache.length cz2, .bool mf, .slice Az3 m.bad.length cz3]) :=
    chg_setRun (.inl (by simp)) _ _ _ ((Chg.refl _ _).set (.inl (by simp)) _)
  refine bodyPost_ret (results_cell_row rfl _ _ (w.heap.size + 1) 30 #[.slice Az m.secs.length cz, .slice Az2 m.cache.length cz2, .bool mf, .slice Az3 m.bad.length cz3] (0, 0) _ rfl (blk_set (blk_set (blk_set (blk_set (blk_ne (by simp) G13.out) 0 _) 1 _) 2 _) 3 _) Try.underlying30 rfl (by kernel_rfl)) rfl ?_
  refine ⟨_, _, rfl, ⟨_, _, _, _, _, _, by rw [Hmf.out], List.append_assoc _ _ _, O_chg HX1.out hc (fun k hk hk' => by have := HD.out k hk; simp at hk'; omega), O_chg HX2.out hc (fun k hk hk' => by have := HD2.out k hk; simp at hk'; omega), O_chg HX3.out hc (fun k hk hk' => by have := HD3.out k hk; simp at hk'; omega)⟩, HG3.out, Chg.below HB3.out hc (by intro i hi; simp at hi; omega)⟩
end Go.Proofs.Ytlmnmcfieagmbaa.MPut
