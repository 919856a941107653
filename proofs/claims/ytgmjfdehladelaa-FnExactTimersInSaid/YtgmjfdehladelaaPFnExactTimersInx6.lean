-- written by xprint.py (a program of this session's, over the kit's print): printed functions, and some by hand
import Derived.Test.YtgmjfdehladelaaPFnExactTimersInx0
import Derived.Test.YtgmjfdehladelaaPFnExactTimersInx5
namespace Go.Proofs.Ytgmjfdehladelaa.PFnExactTimersIn
open Go.RowKit Go.Proofs.YtgmjfdehladelaaW.PrintWords Go.Proofs.YtgmjfdehladelaaW.PrintLast Go.Proofs.YtgmjfdehladelaaW.PrintMore
attribute [local go_sem] max2_int min2_int max_two min_two max_three min_three max_four min_four   -- for this text's walks alone
set_option linter.unusedVariables false
set_option linter.unusedSimpArgs false

/-! ### impl_Timer_63: function 63, by hand; a text alone -/
instance inh45 : Inhabited S45 := ⟨z45⟩
def enc45 (x : S45) : List Value := [.int .i64 x.f0, .int .i64 x.f1]
def cmpT (x y : S45) : Int := if x.f0 < y.f0 then -1 else if y.f0 < x.f0 then 1 else if x.f1 < y.f1 then -1 else if y.f1 < x.f1 then 1 else 0
def Gr (W w : World) : Prop := ∃ (q : Nat) (os : Array Obj), w = Go.Sort.grow (W.drewN q) os
theorem Gr.refl (W : World) : Gr W W := ⟨0, #[], by unfold Go.Sort.grow World.drewN; simp⟩
theorem Gr.drewN {W w : World} (h : Gr W w) (n : Nat) : Gr W (w.drewN n) := by
  obtain ⟨q, os, rfl⟩ := h
  exact ⟨q + n, os, by unfold Go.Sort.grow World.drewN; simp [Nat.add_assoc]⟩
theorem Gr.drew {W w : World} (h : Gr W w) : Gr W w.drew := Gr.drewN h 1
theorem Gr.alloc {W w : World} (h : Gr W w) (o : Obj) : Gr W (w.alloc o) := by
  obtain ⟨q, os, rfl⟩ := h
  exact ⟨q, os ++ #[o], by rw [Go.Sort.alloc_eq_grow, Go.Sort.grow_grow]⟩
theorem lit2_C (W : World) (a b : Int) {g : Nat} (hg : g = W.heap.size) : Kd.C (Kd.int .i64) (W.alloc (.cells #[.int .i64 a, .int .i64 b] 3)) (some ⟨g, 0, none⟩) 2 [a, b] := by
  subst hg
  have h := own_lit W W.heap.size 3 .i64 [a, b] (Nat.le_refl _) (by simp)
  exact (Kd.R_reads' (Kd.R_of_own (α := Int) (enc := Value.int .i64) (h1 := fun _ => rfl) (ok := fun _ => True) h (fun _ _ => trivial))).2.2
theorem drew_N (w : World) (a b : Nat) : (w.drew.drewN a).drewN b = w.drewN (1 + a + b) := by
  unfold World.drewN World.drew
  simp only [Nat.add_assoc]
theorem compare_is (a b : Int) : cmp_Compare_int.f a b = some (if a < b then -1 else if b < a then 1 else 0) := by
  unfold cmp_Compare_int.f cmp_isNaN_int.f
  simp only [Option.bind_some, bne_self_eq_false, Bool.false_eq_true, if_false]
  by_cases h1 : a < b
  · rw [if_pos h1, if_pos h1]
  · rw [if_neg h1, if_neg h1]
    by_cases h2 : b < a
    · rw [if_pos h2, if_pos h2]
    · rw [if_neg h2, if_neg h2]
theorem or_is (a b : Int) : cmp_Or_int.f 5 [a, b] = some (if a = 0 then b else a) := by
  unfold cmp_Or_int.f
  simp only [cmp_Or_int.l0]
  have w1 : wrap64 (0 + 1) = 1 := by unfold wrap64; omega
  have w2 : wrap64 (1 + 1) = 2 := by unfold wrap64; omega
  have e0 : rd [a, b] 0 = a := rfl
  have e1 : rd [a, b] 1 = b := rfl
  rw [w1, w2, e0, e1]
  simp only [List.length_cons, List.length_nil]
  by_cases h : a = 0
  · by_cases h2 : b = 0
    · simp [h, h2]
    · simp [h, h2]
  · simp [h]
theorem cmpT_is (x y : S45) : ∃ r1 r2, cmp_Compare_int.f x.f0 y.f0 = some r1 ∧ cmp_Compare_int.f x.f1 y.f1 = some r2 ∧ cmp_Or_int.f 5 [r1, r2] = some (cmpT x y) := by
  refine ⟨_, _, compare_is _ _, compare_is _ _, ?_⟩
  rw [or_is]
  unfold cmpT
  congr 1
  by_cases h1 : x.f0 < y.f0
  · simp [h1]
  · by_cases h2 : y.f0 < x.f0
    · simp [h1, h2]
    · simp [h1, h2]
set_option maxHeartbeats 8000000 in
set_option maxRecDepth 100000 in
theorem impl_TimersIn_1.grows (x y : S45) (W : World) : Calls Try.prog 64 #[.agg #[.int .i64 x.f0, .int .i64 x.f1], .agg #[.int .i64 y.f0, .int .i64 y.f1]] W fun e w' => e = .returned (.int .i64 (cmpT x y)) ∧ Gr W w' := by
  obtain ⟨r1, r2, h1, h2, h3⟩ := cmpT_is x y
  have H1 := Aside0.mk h1
  have H2 := Aside0.mk h2
  have H3 := Aside0.mk h3
  clear h1 h2 h3
  generalize cmpT x y = r at H3 ⊢
  have HG := Aside0.mk (Gr.alloc (Gr.alloc (Gr.refl W) (.cells #[.int .i64 x.f0, .int .i64 x.f1] 45)) (.cells #[.int .i64 y.f0, .int .i64 y.f1] 45))
  have B0 : Aside0 (((W.alloc (.cells #[.int .i64 x.f0, .int .i64 x.f1] 45)).alloc (.cells #[.int .i64 y.f0, .int .i64 y.f1] 45)).heap[W.heap.size]? = some (.cells #[.int .i64 x.f0, .int .i64 x.f1] 45 (0, 0))) := ⟨blk_alloc (heap_alloc_new _ _) _⟩
  have B1 : Aside0 (((W.alloc (.cells #[.int .i64 x.f0, .int .i64 x.f1] 45)).alloc (.cells #[.int .i64 y.f0, .int .i64 y.f1] 45)).heap[W.heap.size + 1]? = some (.cells #[.int .i64 y.f0, .int .i64 y.f1] 45 (0, 0))) := ⟨by have h_ := heap_alloc_new (W.alloc (.cells #[.int .i64 x.f0, .int .i64 x.f1] 45)) (.cells #[.int .i64 y.f0, .int .i64 y.f1] 45); simpa using h_⟩
  go_enter Try.func64, Try.ntmps64
  go_wp2
  refine start_ (n := 13) (S := fun w' => w'.cell? ⟨W.heap.size, 0, none⟩ = some (.int .i64 x.f0) ∧ w'.cell? ⟨W.heap.size, 1, none⟩ = some (.int .i64 x.f1) ∧ w'.cell? ⟨(W.heap.size + 1), 0, none⟩ = some (.int .i64 y.f0) ∧ w'.cell? ⟨(W.heap.size + 1), 1, none⟩ = some (.int .i64 y.f1)) (ds := []) #[false, false, false, false, false, false, false, false, false, false, false, false, false] (by kernel_rfl) rfl rfl ⟨(blk_cell (blk_drew B0.out) 0).trans rfl, (blk_cell (blk_drew B0.out) 1).trans rfl, (blk_cell (blk_drew B1.out) 0).trans rfl, (blk_cell (blk_drew B1.out) 1).trans rfl⟩ (fun hHeld => ?_)
  have nB0 := Aside0.mk (blk_drew B0.out)
  have nB1 := Aside0.mk (blk_drew B1.out)
  clear B0 B1
  have B0 := nB0
  have B1 := nB1
  clear nB0 nB1
  have nG := Aside0.mk (Gr.drew HG.out)
  clear HG
  have HG := nG
  clear nG
  refine pure_ (i := 0) (N := some 5) (v := ?_) (a' := ?_) #[true, false, false, false, false, false, false, false, false, false, false, false, false] rfl rfl (by kernel_rfl) (fun _ _ _ h => h) (Or.inl ⟨by rfl, ?_⟩) ?_ ?_
  rotate_left
  · intro w'
    go_simp
    with_reducible rfl
  rotate_left
  · simp only [Act.put, List.setIfInBounds_toArray, List.set_cons_zero, List.set_cons_succ, i64_w, i32_w]
    rfl
  refine take_ (i := 1) (N := some 6) (v := ?_) (a' := ?_) #[true, true, false, false, false, false, false, false, false, false, false, false, false] rfl rfl (by kernel_rfl) (fun _ _ _ h => h) (Or.inl ⟨by rfl, ?_⟩) hHeld ?_ ?_
  rotate_left
  · rintro w' ⟨s0, s1, s2, s3⟩
    go_simp
    with_reducible rfl
  rotate_left
  · simp only [Act.put, List.setIfInBounds_toArray, List.set_cons_zero, List.set_cons_succ, i64_w, i32_w]
    rfl
  refine pure_ (i := 2) (N := some 7) (v := ?_) (a' := ?_) #[true, true, true, false, false, false, false, false, false, false, false, false, false] rfl rfl (by kernel_rfl) (fun _ _ _ h => h) (Or.inl ⟨by rfl, ?_⟩) ?_ ?_
  rotate_left
  · intro w'
    go_simp
    with_reducible rfl
  rotate_left
  · simp only [Act.put, List.setIfInBounds_toArray, List.set_cons_zero, List.set_cons_succ, i64_w, i32_w]
    rfl
  refine take_ (i := 3) (N := some 8) (v := ?_) (a' := ?_) #[true, true, true, true, false, false, false, false, false, false, false, false, false] rfl rfl (by kernel_rfl) (fun _ _ _ h => h) (Or.inl ⟨by rfl, ?_⟩) hHeld ?_ ?_
  rotate_left
  · rintro w' ⟨s0, s1, s2, s3⟩
    go_simp
    with_reducible rfl
  rotate_left
  · simp only [Act.put, List.setIfInBounds_toArray, List.set_cons_zero, List.set_cons_succ, i64_w, i32_w]
    rfl
  refine pure_ (i := 5) (N := some 10) (v := ?_) (a' := ?_) #[true, true, true, true, false, true, false, false, false, false, false, false, false] rfl rfl (by kernel_rfl) (fun _ _ _ h => h) (Or.inl ⟨by rfl, ?_⟩) ?_ ?_
  rotate_left
  · intro w'
    go_simp
    with_reducible rfl
  rotate_left
  · simp only [Act.put, List.setIfInBounds_toArray, List.set_cons_zero, List.set_cons_succ, i64_w, i32_w]
    rfl
  refine take_ (i := 6) (N := some 11) (v := ?_) (a' := ?_) #[true, true, true, true, false, true, true, false, false, false, false, false, false] rfl rfl (by kernel_rfl) (fun _ _ _ h => h) (Or.inl ⟨by rfl, ?_⟩) hHeld ?_ ?_
  rotate_left
  · rintro w' ⟨s0, s1, s2, s3⟩
    go_simp
    with_reducible rfl
  rotate_left
  · simp only [Act.put, List.setIfInBounds_toArray, List.set_cons_zero, List.set_cons_succ, i64_w, i32_w]
    rfl
  refine pure_ (i := 7) (N := some 12) (v := ?_) (a' := ?_) #[true, true, true, true, false, true, true, true, false, false, false, false, false] rfl rfl (by kernel_rfl) (fun _ _ _ h => h) (Or.inl ⟨by rfl, ?_⟩) ?_ ?_
  rotate_left
  · intro w'
    go_simp
    with_reducible rfl
  rotate_left
  · simp only [Act.put, List.setIfInBounds_toArray, List.set_cons_zero, List.set_cons_succ, i64_w, i32_w]
    rfl
  refine take_ (i := 8) (N := some 13) (v := ?_) (a' := ?_) #[true, true, true, true, false, true, true, true, true, false, false, false, false] rfl rfl (by kernel_rfl) (fun _ _ _ h => h) (Or.inl ⟨by rfl, ?_⟩) hHeld ?_ ?_
  rotate_left
  · rintro w' ⟨s0, s1, s2, s3⟩
    go_simp
    with_reducible rfl
  rotate_left
  · simp only [Act.put, List.setIfInBounds_toArray, List.set_cons_zero, List.set_cons_succ, i64_w, i32_w]
    rfl
  refine one_ (i := 4) (N := some 9) #[true, true, true, true, true, true, true, true, true, false, false, false, false] rfl rfl (by kernel_rfl) (by decide) (fun K hK => ?_)
  refine goes_ Try.func66 (by kernel_rfl) rfl #[.int .i64 x.f0, .int .i64 y.f0] (by rfl) rfl rfl (by (try simp only [List.map_toArray, List.map_cons, List.map_nil]); first | done | rfl) ?_
  refine (cmp_Compare_int.calls x.f0 y.f0 r1 _ H1.out).mono ?_
  rintro e w' ⟨rfl, ⟨nd, rfl⟩⟩
  refine ⟨_, rfl, ?_⟩
  have nG := Aside0.mk (Gr.drewN HG.out nd)
  clear HG
  have HG := nG
  clear nG
  have nB0 := Aside0.mk (blk_drewN B0.out nd)
  have nB1 := Aside0.mk (blk_drewN B1.out nd)
  clear B0 B1
  have B0 := nB0
  have B1 := nB1
  clear nB0 nB1
  refine hK.out _ _ ⟨(blk_cell (B0.out) 0).trans rfl, (blk_cell (B0.out) 1).trans rfl, (blk_cell (B1.out) 0).trans rfl, (blk_cell (B1.out) 1).trans rfl⟩ (fun hHeld => ?_)
  clear hK K
  refine norm_ (a' := ?_) ?_ ?_
  rotate_left
  · show Act.put _ (some 9) _ = _
    simp only [Act.put, List.setIfInBounds_toArray, List.set_cons_zero, List.set_cons_succ, i64_w, i32_w]
    rfl
  refine one_ (i := 9) (N := some 14) #[true, true, true, true, true, true, true, true, true, true, false, false, false] rfl rfl (by kernel_rfl) (by decide) (fun K hK => ?_)
  refine goes_ Try.func66 (by kernel_rfl) rfl #[.int .i64 x.f1, .int .i64 y.f1] (by rfl) rfl rfl (by (try simp only [List.map_toArray, List.map_cons, List.map_nil]); first | done | rfl) ?_
  refine (cmp_Compare_int.calls x.f1 y.f1 r2 _ H2.out).mono ?_
  rintro e w' ⟨rfl, ⟨nd, rfl⟩⟩
  refine ⟨_, rfl, ?_⟩
  have nG := Aside0.mk (Gr.drewN HG.out nd)
  clear HG
  have HG := nG
  clear nG
  have nB0 := Aside0.mk (blk_drewN B0.out nd)
  have nB1 := Aside0.mk (blk_drewN B1.out nd)
  clear B0 B1
  have B0 := nB0
  have B1 := nB1
  clear nB0 nB1
  refine hK.out _ _ ⟨(blk_cell (B0.out) 0).trans rfl, (blk_cell (B0.out) 1).trans rfl, (blk_cell (B1.out) 0).trans rfl, (blk_cell (B1.out) 1).trans rfl⟩ (fun hHeld => ?_)
  clear hK K
  refine norm_ (a' := ?_) ?_ ?_
  rotate_left
  · show Act.put _ (some 14) _ = _
    simp only [Act.put, List.setIfInBounds_toArray, List.set_cons_zero, List.set_cons_succ, i64_w, i32_w]
    rfl
  refine one_ (i := 10) (N := some 15) #[true, true, true, true, true, true, true, true, true, true, true, false, false] rfl rfl (by kernel_rfl) (by decide) (fun K hK => ?_)
  refine value_ (v := .slice (some ⟨W.heap.size + 1 + 1, 0, none⟩) 2 2) (w1 := World.alloc _ (.cells #[.int .i64 r1, .int .i64 r2] 3)) (by rfl) rfl (by go_simp; rfl) ?_
  have nG := Aside0.mk (Gr.alloc HG.out (.cells #[.int .i64 r1, .int .i64 r2] 3))
  clear HG
  have HG := nG
  clear nG
  have nB0 := Aside0.mk (blk_alloc B0.out (.cells #[.int .i64 r1, .int .i64 r2] 3))
  have nB1 := Aside0.mk (blk_alloc B1.out (.cells #[.int .i64 r1, .int .i64 r2] 3))
  clear B0 B1
  have B0 := nB0
  have B1 := nB1
  clear nB0 nB1
  refine hK.out _ _ ⟨(blk_cell (B0.out) 0).trans rfl, (blk_cell (B0.out) 1).trans rfl, (blk_cell (B1.out) 0).trans rfl, (blk_cell (B1.out) 1).trans rfl⟩ (fun hHeld => ?_)
  clear hK K
  refine norm_ (a' := ?_) ?_ ?_
  rotate_left
  · show Act.put _ (some 15) _ = _
    simp only [Act.put, List.setIfInBounds_toArray, List.set_cons_zero, List.set_cons_succ, i64_w, i32_w]
    rfl
  refine one_ (i := 11) (N := some 16) #[true, true, true, true, true, true, true, true, true, true, true, true, false] rfl rfl (by kernel_rfl) (by decide) (fun K hK => ?_)
  refine goes_ Try.func65 (by kernel_rfl) rfl #[.slice (some ⟨W.heap.size + 1 + 1, 0, none⟩) 2 2] (by rfl) rfl rfl (by (try simp only [List.map_toArray, List.map_cons, List.map_nil]); first | done | rfl) ?_
  refine (cmp_Or_int.calls 5 _ 2 [r1, r2] r _ (lit2_C _ r1 r2 (by simp)) (Nat.le_refl 2) H3.out).mono ?_
  rintro e w' ⟨rfl, ⟨nd, rfl⟩⟩
  refine ⟨_, rfl, ?_⟩
  have nG := Aside0.mk (Gr.drewN HG.out nd)
  clear HG
  have HG := nG
  clear nG
  have nB0 := Aside0.mk (blk_drewN B0.out nd)
  have nB1 := Aside0.mk (blk_drewN B1.out nd)
  clear B0 B1
  have B0 := nB0
  have B1 := nB1
  clear nB0 nB1
  refine hK.out _ _ ⟨(blk_cell (B0.out) 0).trans rfl, (blk_cell (B0.out) 1).trans rfl, (blk_cell (B1.out) 0).trans rfl, (blk_cell (B1.out) 1).trans rfl⟩ (fun hHeld => ?_)
  clear hK K
  refine norm_ (a' := ?_) ?_ ?_
  rotate_left
  · show Act.put _ (some 16) _ = _
    simp only [Act.put, List.setIfInBounds_toArray, List.set_cons_zero, List.set_cons_succ, i64_w, i32_w]
    rfl
  refine pure_ (i := 12) (N := some 4) (v := ?_) (a' := ?_) #[true, true, true, true, true, true, true, true, true, true, true, true, true] rfl rfl (by kernel_rfl) (fun _ _ _ h => h) (Or.inl ⟨by rfl, ?_⟩) ?_ ?_
  rotate_left
  · intro w'
    go_simp
    with_reducible rfl
  rotate_left
  · simp only [Act.put, List.setIfInBounds_toArray, List.set_cons_zero, List.set_cons_succ, i64_w, i32_w]
    rfl
  refine done_ (by kernel_rfl) ?_
  go_wp2
  go_ret
  refine ⟨rfl, ?_⟩
  have hz := HG.out
  rw [drew_N] at hz
  exact hz
theorem row45_get {W : World} {base g n cap : Nat} {ok : Nat → Prop} {xs : List S45} (h : Kd.R k45 45 W base ok (.slice (some ⟨g, 0, none⟩) n cap) xs) :
    ∃ cur : Array Value, W.heap[g]? = some (.cells cur 45 (0, 0)) ∧ base ≤ g ∧ ok g ∧ n = xs.length ∧ n ≤ cap ∧ cap ≤ maxLen ∧ cur.size = cap * 2 ∧ ∀ j (hj : j < xs.length), cur[j * 2]? = some (.int .i64 xs[j].f0) ∧ cur[j * 2 + 1]? = some (.int .i64 xs[j].f1) := by
  have hn := (Kd.R_reads' h).1
  obtain ⟨hok, inner, ⟨h1, h2⟩, hr⟩ := h
  rcases h2 with ⟨hv, _⟩ | ⟨g', cap', cur, hv, hb, hh, hnc, hcm, hcs, hct⟩
  · cases hv
  · injection hv with ha hn2 hc2
    injection ha with ha
    injection ha with ha
    subst ha
    subst hc2
    refine ⟨cur, hh, hb, hok _ rfl, hn, by rw [← hn] at hnc; exact hnc, hcm, hcs, fun j hj => ?_⟩
    have hM := k45_openM (hr.2 j _ (List.getElem?_eq_getElem hj))
    have hil : inner.length = xs.length * 2 := h1
    have hd : ∀ i, i < 2 → inner[j * 2 + i]? = [Value.int .i64 xs[j].f0, .int .i64 xs[j].f1][i]? := by
      intro i hi
      rw [← hM]
      show _ = ((inner.drop (j * 2)).take 2)[i]?
      rw [List.getElem?_take, if_pos hi, List.getElem?_drop]
    have hc : ∀ i, i < 2 → cur[j * 2 + i]? = inner[j * 2 + i]? := by
      intro i hi
      rw [← hct, List.getElem?_take, if_pos (by show j * 2 + i < xs.length * 2; omega), Array.getElem?_toList]
    exact ⟨by have := hd 0 (by omega); rw [← hc 0 (by omega)] at this; simpa using this, by have := hd 1 (by omega); rw [← hc 1 (by omega)] at this; simpa using this⟩
theorem row45_of {W : World} {base g cap : Nat} {ok : Nat → Prop} {ys : List S45} {cur : Array Value} (hh : W.heap[g]? = some (.cells cur 45 (0, 0))) (hb : base ≤ g) (hok : ok g) (hnc : ys.length ≤ cap) (hcm : cap ≤ maxLen) (hcs : cur.size = cap * 2)
    (hc : ∀ j (hj : j < ys.length), cur[j * 2]? = some (.int .i64 ys[j].f0) ∧ cur[j * 2 + 1]? = some (.int .i64 ys[j].f1)) : Kd.R k45 45 W base ok (.slice (some ⟨g, 0, none⟩) ys.length cap) ys := by
  have hcl : cur.toList.length = cur.size := Array.length_toList
  have hl : (cur.toList.take (ys.length * 2)).length = ys.length * 2 := by rw [List.length_take, hcl]; omega
  refine ⟨fun k hk => ?_, cur.toList.take (ys.length * 2), ⟨hl, .inr ⟨g, cap, cur, rfl, hb, hh, hnc, hcm, hcs, rfl⟩⟩, hl, fun j p hj => ?_⟩
  · simp only [Value.ownBlock, Option.some.injEq] at hk
    subst hk
    exact hok
  · obtain ⟨hj1, rfl⟩ := List.getElem?_eq_some_iff.1 hj
    have h2 := hc j hj1
    show k45.M _ _ _ _ (((cur.toList.take (ys.length * 2)).drop (j * 2)).take 2)
    have e : ((cur.toList.take (ys.length * 2)).drop (j * 2)).take 2 = [Value.int .i64 ys[j].f0, .int .i64 ys[j].f1] := by
      apply List.ext_getElem?
      intro i
      rw [List.getElem?_take]
      rcases Nat.lt_or_ge i 2 with hi | hi
      · rw [if_pos hi, List.getElem?_drop, List.getElem?_take, if_pos (by omega), Array.getElem?_toList]
        rcases Nat.lt_or_ge i 1 with h0 | h0
        · obtain rfl : i = 0 := by omega
          exact h2.1
        · obtain rfl : i = 1 := by omega
          exact h2.2
      · rw [if_neg (by omega), List.getElem?_eq_none (by simpa using hi)]
    rw [e]
    exact k45_mkM _ _ _ _
theorem flat_at (d : Array S45) (j i : Nat) (hj : j < d.size) (hi : i < 2) : (Go.Sort.flatK enc45 2 d)[j * 2 + i]! = (enc45 d[j])[i]! := by
  rw [Go.Sort.get_flatK _ _ _ _ (by omega), show (j * 2 + i) / 2 = j by omega, show (j * 2 + i) % 2 = i by omega, getElem!_pos d j hj]
theorem holds45 {W : World} {g : Nat} {xs : List S45} {cur : Array Value} (hh : W.heap[g]? = some (.cells cur 45 (0, 0))) (hc : ∀ j (hj : j < xs.length), cur[j * 2]? = some (.int .i64 xs[j].f0) ∧ cur[j * 2 + 1]? = some (.int .i64 xs[j].f1)) :
    Go.Sort.HoldsK enc45 2 W g 0 xs.toArray := by
  intro t ht
  rw [Go.Sort.size_flatK] at ht
  have hx : xs.toArray.size = xs.length := by simp
  obtain ⟨j, i, hi, rfl⟩ : ∃ j i, i < 2 ∧ t = j * 2 + i := ⟨t / 2, t % 2, by omega, by omega⟩
  have hj : j < xs.length := by omega
  refine ⟨?_, blk_frozen hh _⟩
  rw [blk_cell hh, Nat.zero_add]
  have h2 := hc j hj
  show cur[j * 2 + i]? = some (id ((Go.Sort.flatK enc45 2 xs.toArray)[j * 2 + i]!))
  rw [flat_at xs.toArray j i (by omega) hi]
  rcases Nat.lt_or_ge i 1 with h0 | h0
  · obtain rfl : i = 0 := by omega
    simpa [enc45] using h2.1
  · obtain rfl : i = 1 := by omega
    simpa [enc45] using h2.2
theorem ltT_eq (x y : S45) : ltOf cmpT x y = decide (x.f0 < y.f0 ∨ (x.f0 = y.f0 ∧ x.f1 < y.f1)) := by
  unfold ltOf cmpT
  by_cases h1 : x.f0 < y.f0
  · simp [h1]
  · by_cases h2 : y.f0 < x.f0
    · simp [h1, h2]; omega
    · have h3 : x.f0 = y.f0 := by omega
      by_cases h4 : x.f1 < y.f1
      · simp [h3, h4]
      · by_cases h5 : y.f1 < x.f1
        · simp [h3, h4, h5]
        · simp [h3, h4, h5]
theorem swoT : Go.Sort.SWO (ltOf cmpT) where
  irrefl x := by rw [ltT_eq]; simp
  trans x y z h1 h2 := by rw [ltT_eq] at *; simp at *; omega
  ntrans x y z h1 h2 := by rw [ltT_eq] at *; simp at *; omega
def sortT (xs : List S45) : List S45 := xs.mergeSort fun x y => !(ltOf cmpT) y x
set_option maxHeartbeats 2000000 in
theorem slices_SortFunc_Timer.own (A : Option Addr) (n c : Nat) (xs : List S45) (ok : Nat → Prop) (w0 w : World) (hB : Below w0.heap.size w0 w) (hR : Kd.R k45 45 w w0.heap.size ok (.slice A n c) xs) (hsz : xs.length < 4611686018427387904) :
    Calls Try.prog 63 #[.slice A n c, .func (.func 64) #[] #[]] w fun e w' => e = .returned (.tuple #[]) ∧ Kd.R k45 45 w' w0.heap.size ok (.slice A n c) (sortT xs) ∧ Below w0.heap.size w0 w' := by
  have hn := (Kd.R_reads' hR).1
  subst hn
  rcases Nat.eq_zero_or_pos xs.length with h0 | h0
  · obtain rfl : xs = [] := List.length_eq_zero_iff.1 h0
    exact (AnyF.slices_SortFunc_none Go.Proofs.Try.sort63 A c (.func (.func 64) #[] #[]) w).mono fun e w' ⟨he, hw⟩ => ⟨he, by subst hw; simpa [sortT] using hR, by subst hw; exact hB⟩
  · obtain ⟨g, cap, hv, hbg, hgl, _⟩ := Kd.R_form hR h0
    injection hv with ha _ hc
    subst ha
    subst hc
    obtain ⟨cur, hh, hb, hok, _, hnc, hcm, hcs, hcur⟩ := row45_get hR
    have hH := holds45 hh hcur
    have hxs : xs.toArray.size = xs.length := by simp
    have hcon := AnyQ.slices_SortFunc_total Go.Proofs.Try.sort63 2 Go.Proofs.Try.isAgg45 Go.Proofs.Try.sizeOf45 enc45 (fun _ => rfl) (fun x v hv => by simp [enc45] at hv; rcases hv with rfl | rfl <;> rfl) cmpT swoT 64 #[] g 0 c xs.toArray w
      (enters_of Try.func64 (by kernel_rfl) rfl) (fun m os dk _ x y => (impl_TimersIn_1.grows x y _)) hH hgl (by rw [hxs]; exact hsz) (fun x y h1 h2 => by
        rw [ltT_eq] at h1 h2
        simp at h1 h2
        have : x.f0 = y.f0 := by omega
        have : x.f1 = y.f1 := by omega
        cases x; cases y; simp_all)
    rw [hxs] at hcon
    refine hcon.mono ?_
    rintro e w' ⟨he, q, os, rfl⟩
    have hs : (sortT xs).length = xs.length := by unfold sortT; exact List.length_mergeSort _
    have hmo : (sortWorldK enc45 2 w g 0 q (xs.toArray.toList.mergeSort fun x y => !(ltOf cmpT) y x).toArray os).heap = (w.heap.modify g (Go.Sort.onCells (Go.Sort.putCells id 0 (Go.Sort.flatK enc45 2 (sortT xs).toArray)))) ++ os := rfl
    have hlt : g < (w.heap.modify g (Go.Sort.onCells (Go.Sort.putCells id 0 (Go.Sort.flatK enc45 2 (sortT xs).toArray)))).size := by rw [Array.size_modify]; exact hgl
    refine ⟨he, ?_, ?_⟩
    · have hg : (sortWorldK enc45 2 w g 0 q (xs.toArray.toList.mergeSort fun x y => !(ltOf cmpT) y x).toArray os).heap[g]? = some (.cells (Go.Sort.putCells id 0 (Go.Sort.flatK enc45 2 (sortT xs).toArray) cur) 45 (0, 0)) := by
        rw [hmo, Array.getElem?_append_left hlt, Array.getElem?_modify, if_pos rfl, hh]
        rfl
      rw [← hs]
      have hy : (sortT xs).toArray.size = (sortT xs).length := by simp
      have put : ∀ t, t < (sortT xs).length * 2 → (Go.Sort.putCells id 0 (Go.Sort.flatK enc45 2 (sortT xs).toArray) cur)[t]? = some ((Go.Sort.flatK enc45 2 (sortT xs).toArray)[t]!) := by
        intro t ht
        unfold Go.Sort.putCells
        rw [Array.getElem?_mapIdx, Array.getElem?_eq_getElem (by omega)]
        simp only [Option.map_some]
        rw [if_pos ⟨Nat.zero_le _, by rw [Go.Sort.size_flatK, hy]; omega⟩]
        rfl
      refine row45_of hg hb hok (by omega) hcm (by unfold Go.Sort.putCells; rw [Array.size_mapIdx]; exact hcs) (fun j hj => ⟨?_, ?_⟩)
      · rw [put _ (by omega)]
        have := flat_at (sortT xs).toArray j 0 (by omega) (by omega)
        rw [Nat.add_zero] at this
        rw [this]
        simp [enc45]
      · rw [put _ (by omega), flat_at (sortT xs).toArray j 1 (by omega) (by omega)]
        simp [enc45]
    · refine ⟨hB.os, hB.tape, hB.output, ?_, fun k hk => ?_⟩
      · rw [hmo, Array.size_append, Array.size_modify]
        have := hB.size
        omega
      · rw [hmo, Array.getElem?_append_left (by rw [Array.size_modify]; have := hB.size; omega), Array.getElem?_modify, if_neg (by omega)]
        exact hB.block k hk

/-! ### impl_TimersIn: function 28, by hand -/
def impl_TimersIn.f (k : Nat) (a0_0 : Int) (l0_1 : List (List S45)) : Option (List S45 × Bool) := (impl_GoodWheel.f k a0_0 l0_1).bind fun b => if b = true then ((impl_Wheel_timers.f k a0_0 l0_1).bind fun r => if r.length < 8796093022208 then some (sortT r, true) else none) else some ([], false)
theorem impl_TimersIn.mono : ∀ a0 a1 k, LeO (impl_TimersIn.f k a0 a1) (impl_TimersIn.f (k + 1) a0 a1) := fun a0 a1 k => LeO.bind (impl_GoodWheel.mono a0 a1 k) (fun _ => LeO.ite (LeO.bind (impl_Wheel_timers.mono a0 a1 k) (fun _ => LeO.refl _)) (LeO.refl _))
set_option maxHeartbeats 8000000 in
set_option maxRecDepth 100000 in
theorem impl_TimersIn.calls (k : Nat) (a0_0 : Int) (A0_1 : Option Addr) (c0_1 : Nat) (l0_1 : List (List S45)) (r1 : List S45) (r2 : Bool) (w : World) (hr0_1 : Kd.C (Kd.slice 45 k45) w A0_1 l0_1.length l0_1) (hc0_1 : l0_1.length ≤ c0_1) (h : impl_TimersIn.f k a0_0 l0_1 = some (r1, r2)) :
    Calls Try.prog 28 #[.agg #[.int .i64 a0_0, .slice A0_1 l0_1.length c0_1]] w fun e w' => ∃ v1_ : Value, e = .returned (.tuple #[v1_, .bool r2]) ∧ Kd.R k45 45 w' w.heap.size (fun _ => True) v1_ r1 ∧ Below w.heap.size w w' := by
  have HR0_1 := Aside0.mk hr0_1
  have HC0_1 := Aside0.mk hc0_1
  clear hr0_1 hc0_1
  unfold impl_TimersIn.f at h
  replace h := Option.bind_eq_some_iff.1 h
  obtain ⟨b, hb0, h⟩ := h
  have HGW := Aside0.mk hb0
  clear hb0
  have HB := Aside0.mk (below_alloc (Below.refl w.heap.size w) (.cells #[.int .i64 a0_0, .slice A0_1 l0_1.length c0_1] 27))
  have BK : Aside0 ((w.alloc (.cells #[.int .i64 a0_0, .slice A0_1 l0_1.length c0_1] 27)).heap[w.heap.size]? = some (.cells #[.int .i64 a0_0, .slice A0_1 l0_1.length c0_1] 27 (0, 0))) := ⟨heap_alloc_new _ _⟩
  cases b with
  | false =>
    have h2 : some (([] : List S45), false) = some (r1, r2) := h
    simp only [Option.some.injEq, Prod.mk.injEq] at h2
    obtain ⟨rfl, rfl⟩ := h2
    clear h
    go_enter Try.func28, Try.ntmps28
    go_wp2_with (go_at_call 21; refine (impl_GoodWheel.calls k a0_0 _ _ l0_1 false _ (Kd.C_below HR0_1.out HB.out) HC0_1.out HGW.out).mono ?_; rintro e w1 ⟨rfl, hb⟩; have HB1 := Aside0.mk (below_then HB.out HB.out.size hb); clear hb)
    go_ret2
    exact ⟨_, rfl, Kd.R_nil _ _ _ _ _, HB1.out⟩
  | true =>
    have h2 : ((impl_Wheel_timers.f k a0_0 l0_1).bind fun r => if r.length < 8796093022208 then some (sortT r, true) else none) = some (r1, r2) := h
    clear h
    replace h2 := Option.bind_eq_some_iff.1 h2
    obtain ⟨r, ht, h2⟩ := h2
    have HTM := Aside0.mk ht
    clear ht
    by_cases hl : r.length < 8796093022208
    case neg => rw [if_neg hl] at h2; cases h2
    rw [if_pos hl] at h2
    simp only [Option.some.injEq, Prod.mk.injEq] at h2
    obtain ⟨rfl, rfl⟩ := h2
    have HL := Aside0.mk hl
    clear hl
    go_enter Try.func28, Try.ntmps28
    go_wp2_with (first
      | (go_at_call 21; refine (impl_GoodWheel.calls k a0_0 _ _ l0_1 true _ (Kd.C_below HR0_1.out HB.out) HC0_1.out HGW.out).mono ?_; rintro e w1 ⟨rfl, hb⟩; have HB1 := Aside0.mk (below_then HB.out HB.out.size hb); have BK1 := Aside0.mk (blk_below BK.out hb); clear hb)
      | (go_at_call 62; refine (impl_Wheel_timers.at k _ a0_0 _ _ l0_1 r _ BK1.out (Kd.C_below HR0_1.out HB1.out) HC0_1.out HTM.out).mono ?_; rintro e w2 ⟨v1, rfl, ho, hb⟩; have HB2 := Aside0.mk (below_then HB1.out HB1.out.size hb); have HO := Aside0.mk (Kd.R_lower ho HB1.out.size); clear hb ho; obtain ⟨A2, c2, rfl⟩ := Kd.R_slice HO.out)
      | (go_at_call 63; refine (slices_SortFunc_Timer.own A2 r.length c2 r (fun _ => True) w _ HB2.out HO.out (by have := HL.out; omega)).mono ?_; rintro e w3 ⟨rfl, ho, hb⟩; have HO3 := Aside0.mk ho; have HB3 := Aside0.mk hb; clear ho hb))
    go_ret2
    exact ⟨_, rfl, HO3.out, HB3.out⟩

/-! ### laws_markTimerS: function 30 -/
def laws_markTimerS.l0 : Nat → List (S45) → Int → Int → Option (Int × (List (S45)))
  | 0, _, _, _ => none
  | k + 1, x0, x1, x5 => if x5 < (x0.length : Int) then (if 0 ≤ x5 then ((some (x0.set (x5 : Int).toNat (⟨x1, (rd_T45 x0 x5).f1⟩ : S45) : List (S45))).bind fun y220 => (laws_markTimerS.l0 k (y220.set (x5 : Int).toNat (⟨(rd_T45 y220 x5).f0, wrap64 (x1 + 1)⟩ : S45)) (wrap64 ((wrap64 (x1 + 1)) + 1)) (wrap64 (x5 + 1)))) else (none)) else (some (x1, x0))
def laws_markTimerS.f (k : Nat) (l0 : List (S45)) (a1 : Int) : Option (Int × (List (S45))) := laws_markTimerS.l0 k l0 a1 0
theorem laws_markTimerS.mono_l : ∀ k, (∀ y0 y1 y2, LeO (laws_markTimerS.l0 k y0 y1 y2) (laws_markTimerS.l0 (k + 1) y0 y1 y2))
  | 0 => fun _ _ _ r h => by simp [laws_markTimerS.l0] at h
  | k + 1 => by
    have ih0 := laws_markTimerS.mono_l k
    · intro y0 y1 y2
      unfold laws_markTimerS.l0
      repeat' first
      | (with_reducible exact ih0 _ _ _)
      | (with_reducible exact LeO.refl _)
      | (with_reducible exact LeO.none _)
      | (with_reducible refine LeO.ite ?_ ?_)
      | (with_reducible refine LeO.bind ?_ (fun _ => ?_))
      | exact ih0 _ _ _
      | exact LeO.none _
      | refine LeO.ite ?_ ?_
      | refine LeO.bind ?_ (fun _ => ?_)
theorem laws_markTimerS.mono : ∀ a0 a1 k, LeO (laws_markTimerS.f k a0 a1) (laws_markTimerS.f (k + 1) a0 a1) := by
  intro a0 a1 k
  have ih0 := laws_markTimerS.mono_l k
  unfold laws_markTimerS.f
  repeat' first
      | (with_reducible exact ih0 _ _ _)
      | (with_reducible exact LeO.refl _)
      | (with_reducible exact LeO.none _)
      | (with_reducible refine LeO.ite ?_ ?_)
      | (with_reducible refine LeO.bind ?_ (fun _ => ?_))
      | exact ih0 _ _ _
      | exact LeO.none _
      | refine LeO.ite ?_ ?_
      | refine LeO.bind ?_ (fun _ => ?_)
set_option maxHeartbeats 8000000 in
set_option maxRecDepth 100000 in
theorem laws_markTimerS.calls (k : Nat) (P0_ : Nat → Prop) (u9000_ : Value) (l0 : List (S45)) (a1 : Int) (r1 : Int) (r2 : List (S45)) (w0 w : World) (hB : Below w0.heap.size w0 w) (ho0 : Kd.R k45 45 w w0.heap.size P0_ u9000_ l0) (h : laws_markTimerS.f k l0 a1 = some (r1, r2)) :
    Calls Try.prog 30 #[u9000_, .int .i64 a1] w fun e w' => e = .returned (.int .i64 r1) ∧ Kd.R k45 45 w' w0.heap.size (fun k_ => (P0_ k_ ∨ w.heap.size ≤ k_)) u9000_ r2 ∧ Below w0.heap.size w0 w' ∧ Kept w w' (fun k_ => P0_ k_) := by
  have HO0 := Aside0.mk (show Kd.R k45 45 w w0.heap.size (fun k_ => (P0_ k_ ∨ w.heap.size ≤ k_)) u9000_ l0 from Kd.R_mono ho0 (fun k_ hk => (.inl hk)))
  have HK := Aside0.mk (Kept.refl w (fun k_ => P0_ k_))
  have HW0 := Aside0.mk hB.size
  have HB := Aside0.mk hB
  clear hB
  have H : (laws_markTimerS.l0 k l0 a1 0) = some (r1, r2) := h
  clear h
  have H' := Aside0.mk H
  clear H
  go_enter Try.func30, Try.ntmps30
  go_wp2
  go_loopg [1, 5] k (fun kq v1 v5 w' => ∃ (x0_1 : List (S45)) (x1_1 : Int) (x5_1 : Int), v1 = .int .i64 x1_1 ∧ v5 = .int .i64 x5_1 ∧ Aside0 (laws_markTimerS.l0 kq x0_1 x1_1 x5_1 = some (r1, r2)) ∧ Aside0 (kq ≤ k) ∧ Aside0 (Kd.R k45 45 w' w0.heap.size (fun k_ => (P0_ k_ ∨ w.heap.size ≤ k_)) u9000_ x0_1) ∧ Aside0 (Kept w w' (fun k_ => P0_ k_)) ∧ Aside0 (Below w0.heap.size w0 w'))
  case atStart => exact ⟨(l0), (a1), (0), (by first | rfl | (simp; done) | (simp [*]; done) | (simp; exact (fun l : List UInt8 => (by cases l <;> rfl : l.isEmpty = !(l != []))) _)), (by first | rfl | (simp; done) | (simp [*]; done) | (simp; exact (fun l : List UInt8 => (by cases l <;> rfl : l.isEmpty = !(l != []))) _)), H', ⟨Nat.le_refl _⟩, ⟨by (with_reducible repeat (first | apply Kd.R_alloc | apply Kd.R_drewN | apply Kd.R_drew)); exact HO0.out⟩, ⟨by repeat (first | (with_reducible first | exact HK.out | apply Kept.alloc | apply Kept.drewN | apply Kept.drew) | exact HK.out)⟩, ⟨by repeat (first | (with_reducible first | exact HB.out | apply below_alloc | apply pw_below_drewN | apply below_drew1) | exact HB.out)⟩⟩
  case round =>
    clear H'
    try clear p2
    obtain ⟨x0_1, x1_1, x5_1, rfl, rfl, HA, HK1, HO_0, HK, HB⟩ := hrel
    cases gk with
    | zero => exact absurd HA.out (by simp [laws_markTimerS.l0])
    | succ k1 =>
      have H := HA.out
      clear HA
      simp only [laws_markTimerS.l0] at H
      by_cases c3 : x5_1 < (x0_1.length : Int)
      · rw [if_pos c3] at H
        have c3b0 : decide (x5_1 < (x0_1.length : Int)) = true := decide_eq_true c3
        clear c3
        by_cases c4 : 0 ≤ x5_1
        · rw [if_pos c4] at H
          have c4b0 : decide (0 ≤ x5_1) = true := decide_eq_true c4
          clear c4
          obtain ⟨y220, hy220⟩ : ∃ y_ : List (S45), y_ = (x0_1.set (x5_1 : Int).toNat (⟨x1_1, (rd_T45 x0_1 x5_1).f1⟩ : S45)) := ⟨_, rfl⟩
          replace H : (laws_markTimerS.l0 k1 (y220.set (x5_1 : Int).toNat (⟨(rd_T45 y220 x5_1).f0, wrap64 (x1_1 + 1)⟩ : S45)) (wrap64 ((wrap64 (x1_1 + 1)) + 1)) (wrap64 (x5_1 + 1))) = some (r1, r2) := by first | (rw [hy220]; with_reducible exact H) | (have H2_ := (Option.bind_some _ _).symm.trans H; rw [hy220]; with_reducible exact H2_) | (have H2_ := (Option.bind_some _ _).symm.trans H; with_reducible exact H2_) | with_reducible exact H | (rw [hy220]; exact H) | exact H
          have Ny220 := Aside0.mk hy220
          clear hy220
          obtain ⟨y221, hy221⟩ : ∃ y_ : List (S45), y_ = (y220.set (x5_1 : Int).toNat (⟨(rd_T45 y220 x5_1).f0, wrap64 (x1_1 + 1)⟩ : S45)) := ⟨_, rfl⟩
          replace H : (laws_markTimerS.l0 k1 y221 (wrap64 ((wrap64 (x1_1 + 1)) + 1)) (wrap64 (x5_1 + 1))) = some (r1, r2) := by first | (rw [hy221]; with_reducible exact H) | (have H2_ := (Option.bind_some _ _).symm.trans H; rw [hy221]; with_reducible exact H2_) | (have H2_ := (Option.bind_some _ _).symm.trans H; with_reducible exact H2_) | with_reducible exact H | (rw [hy221]; exact H) | exact H
          have Ny221 := Aside0.mk hy221
          clear hy221
          have H' := Aside0.mk H
          clear H
          obtain ⟨Ao7, co7, eo7⟩ := Kd.R_slice HO_0.out
          subst eo7
          have p5 : 0 ≤ (x5_1 : Int) := of_decide_eq_true (by first | (with_reducible assumption) | assumption)
          have q5 : (x5_1 : Int) < ((x0_1.length : Int) : Int) := of_decide_eq_true (by first | (with_reducible assumption) | assumption)
          obtain ⟨go5, co5, eo5, gb5, gl5, cl5, HG5⟩ := Kd.R_form HO_0.out (by omega)
          (first | cases eo5 | (injection eo5 with ea_ en_ ec_; (first | subst ea_ | (injection ea_ with ea_; subst ea_)); subst ec_; clear en_))
          have GB5 := Aside0.mk gb5
          have GG5 := Aside0.mk HG5
          clear gb5 gl5 HG5
          have HMgo5 := Aside0.mk (show (P0_ go5 ∨ w.heap.size ≤ go5) from (HO_0.out.1 _ rfl))
          obtain ⟨ce5, hcl5, hM5, hcc5, hfr5⟩ := Kd.R_elem HO_0.out z45 (x5_1 : Int) p5 q5
          obtain rfl := k45_openM hM5
          have hx5_0 : wr.cell? ⟨go5, (x5_1 : Int).toNat * 2, none⟩ = some (.int .i64 ((rd_T45 x0_1 x5_1).f0)) := hcc5 0 _ rfl
          have hx5_1 : wr.cell? ⟨go5, (x5_1 : Int).toNat * 2 + 1, none⟩ = some (.int .i64 ((rd_T45 x0_1 x5_1).f1)) := hcc5 1 _ rfl
          have hf5_0 : wr.frozen? ⟨go5, (x5_1 : Int).toNat * 2, none⟩ = false := hfr5 0
          have hf5_1 : wr.frozen? ⟨go5, (x5_1 : Int).toNat * 2 + 1, none⟩ = false := hfr5 1
          clear hcl5 hcc5 hfr5 hM5
          replace p5 := eq_true p5
          replace q5 := eq_true q5
          have HX8 := Aside0.mk (show Kd.R k45 45 wr w0.heap.size (fun k_ => (P0_ k_ ∨ w.heap.size ≤ k_)) (.slice (some ⟨go5, 0, none⟩) x0_1.length co7) x0_1 from (by (with_reducible repeat (first | apply Kd.R_alloc | apply Kd.R_drewN | apply Kd.R_drew)); exact HO_0.out))
          obtain ⟨ce8, hcl8, hM8, hcc8, hfr8⟩ := Kd.R_elem HX8.out z45 (x5_1 : Int) (of_decide_eq_true (by first | (with_reducible assumption) | assumption)) (by have h_ : (x5_1 : Int) < ((x0_1.length : Int) : Int) := of_decide_eq_true (by first | (with_reducible assumption) | assumption); first | exact h_ | (have e_ := (Kd.R_reads' HO_0.out).1; omega) | simpa using h_)
          obtain rfl := k45_openM hM8
          have HP8 := Kd.R_seg HX8.out (x5_1 : Int) (of_decide_eq_true (by first | (with_reducible assumption) | assumption)) (by have h_ : (x5_1 : Int) < ((x0_1.length : Int) : Int) := of_decide_eq_true (by first | (with_reducible assumption) | assumption); first | exact h_ | (have e_ := (Kd.R_reads' HO_0.out).1; omega) | simpa using h_) (seg := [.int .i64 x1_1]) (j := 0) hcl8 hcc8 (show 1 ≤ 2 from by decide) (x' := (⟨x1_1, (rd_T45 x0_1 x5_1).f1⟩ : S45)) (k45_mkM _ _ _ (⟨x1_1, (rd_T45 x0_1 x5_1).f1⟩ : S45) ) (fun _ hk => hk)
          have hx8_0 := hcc8 0 _ rfl
          (try simp only [show (k45).sz = 2 from rfl, Nat.mul_one, Nat.add_zero] at hx8_0)
          have hf8_0 := hfr8 0
          (try simp only [show (k45).sz = 2 from rfl, Nat.mul_one, Nat.add_zero] at hf8_0)
          clear hcl8 hcc8 hfr8 hM8
          go_wp2_with (first | ((with_reducible refine gate_store (t := 3) (p := 16) rfl ?_); refine store_event (t := 3) (p := 16) (v := ?vo_w9) (w1 := (wr.setCell ⟨go5, (x5_1 : Int).toNat * 2, none⟩ (.int .i64 x1_1))) ?hg ?ho ?hn ?hr ?_; (case ho => rfl); (case hg => rfl); (case hn => rfl); (case hr => first | (go_simp; done) | (go_simp; rfl)); intro w9 hw; have hg : wr.grownBy w9 (some go5) := (by rw [hw]; exact HP8.2); have hp_ : Kd.R k45 45 w9 w0.heap.size (fun k_ => (P0_ k_ ∨ w.heap.size ≤ k_)) (.slice (some ⟨go5, 0, none⟩) x0_1.length co7) y220 := (by rw [hw, Ny220.out]; exact HP8.1); clear HP8; have n0_ := Aside0.mk (hp_); have n1_ := Aside0.mk ((by rw [hw]; exact below_set (HB.out) GB5.out : Below w0.heap.size w0 w9)); have n2_ := Aside0.mk (Kept.of_grown (S := (fun k_ => P0_ k_)) hg (by repeat (first | (with_reducible first | exact HK.out | apply Kept.alloc | apply Kept.drewN | apply Kept.drew) | exact HK.out)) (fun k_ e_ => (HO_0.out.1 k_ e_))); clear HO_0; clear HB; clear HK; have HO_0 := n0_; have HB := n1_; have HK := n2_; clear n0_ n1_ n2_; clear hg hw hp_; have p6 : 0 ≤ (x5_1 : Int) := of_decide_eq_true (by first | (with_reducible assumption) | assumption); have q6 : (x5_1 : Int) < ((x0_1.length : Int) : Int) := of_decide_eq_true (by first | (with_reducible assumption) | assumption); obtain ⟨ce6, hcl6, hM6, hcc6, hfr6⟩ := Kd.R_elem HO_0.out z45 (x5_1 : Int) p6 q6; obtain rfl := k45_openM hM6; have hx6_0 : w9.cell? ⟨go5, (x5_1 : Int).toNat * 2, none⟩ = some (.int .i64 ((rd_T45 y220 x5_1).f0)) := hcc6 0 _ rfl; have hx6_1 : w9.cell? ⟨go5, (x5_1 : Int).toNat * 2 + 1, none⟩ = some (.int .i64 ((rd_T45 y220 x5_1).f1)) := hcc6 1 _ rfl; have hf6_0 : w9.frozen? ⟨go5, (x5_1 : Int).toNat * 2, none⟩ = false := hfr6 0; have hf6_1 : w9.frozen? ⟨go5, (x5_1 : Int).toNat * 2 + 1, none⟩ = false := hfr6 1; (try clear hcl6); (try clear hcc6); (try clear hfr6); (try clear hM6); replace p6 := eq_true p6; replace q6 := eq_true q6; have HX10 := Aside0.mk (show Kd.R k45 45 w9 w0.heap.size (fun k_ => (P0_ k_ ∨ w.heap.size ≤ k_)) (.slice (some ⟨go5, 0, none⟩) x0_1.length co7) y220 from (by (with_reducible repeat (first | apply Kd.R_alloc | apply Kd.R_drewN | apply Kd.R_drew)); exact HO_0.out)); obtain ⟨ce10, hcl10, hM10, hcc10, hfr10⟩ := Kd.R_elem HX10.out z45 (x5_1 : Int) (of_decide_eq_true (by first | (with_reducible assumption) | assumption)) (by have h_ : (x5_1 : Int) < ((x0_1.length : Int) : Int) := of_decide_eq_true (by first | (with_reducible assumption) | assumption); first | exact h_ | (have e_ := (Kd.R_reads' HO_0.out).1; omega) | simpa using h_); obtain rfl := k45_openM hM10; have HP10 := Kd.R_seg HX10.out (x5_1 : Int) (of_decide_eq_true (by first | (with_reducible assumption) | assumption)) (by have h_ : (x5_1 : Int) < ((x0_1.length : Int) : Int) := of_decide_eq_true (by first | (with_reducible assumption) | assumption); first | exact h_ | (have e_ := (Kd.R_reads' HO_0.out).1; omega) | simpa using h_) (seg := [.int .i64 (wrap64 (x1_1 + 1))]) (j := 1) hcl10 hcc10 (show 2 ≤ 2 from by decide) (x' := (⟨(rd_T45 y220 x5_1).f0, wrap64 (x1_1 + 1)⟩ : S45)) (k45_mkM _ _ _ (⟨(rd_T45 y220 x5_1).f0, wrap64 (x1_1 + 1)⟩ : S45) ) (fun _ hk => hk); have hx10_1 := hcc10 1 _ rfl; (try simp only [show (k45).sz = 2 from rfl, Nat.mul_one, Nat.add_zero] at hx10_1); have hf10_1 := hfr10 1; (try simp only [show (k45).sz = 2 from rfl, Nat.mul_one, Nat.add_zero] at hf10_1); (try clear hcl10); (try clear hcc10); (try clear hfr10); (try clear hM10)) | ((with_reducible refine gate_store (t := 3) (p := 23) rfl ?_); refine store_event (t := 3) (p := 23) (v := ?vo_w11) (w1 := (w9.setCell ⟨go5, (x5_1 : Int).toNat * 2 + 1, none⟩ (.int .i64 (wrap64 (x1_1 + 1))))) ?hg ?ho ?hn ?hr ?_; (case ho => rfl); (case hg => rfl); (case hn => rfl); (case hr => first | (go_simp; done) | (go_simp; rfl)); intro w11 hw; have hg : w9.grownBy w11 (some go5) := (by rw [hw]; exact HP10.2); have hp_ : Kd.R k45 45 w11 w0.heap.size (fun k_ => (P0_ k_ ∨ w.heap.size ≤ k_)) (.slice (some ⟨go5, 0, none⟩) x0_1.length co7) y221 := (by rw [hw, Ny221.out]; exact HP10.1); clear HP10; have n0_ := Aside0.mk (hp_); have n1_ := Aside0.mk ((by rw [hw]; exact below_set (HB.out) GB5.out : Below w0.heap.size w0 w11)); have n2_ := Aside0.mk (Kept.of_grown (S := (fun k_ => P0_ k_)) hg (by repeat (first | (with_reducible first | exact HK.out | apply Kept.alloc | apply Kept.drewN | apply Kept.drew) | exact HK.out)) (fun k_ e_ => (HO_0.out.1 k_ e_))); clear HO_0; clear HB; clear HK; have HO_0 := n0_; have HB := n1_; have HK := n2_; clear n0_ n1_ n2_; clear hg hw hp_))
          go_roundg k1
          case measure => have := HK1.out; omega
          case rel => exact ⟨(y221), (wrap64 ((wrap64 (x1_1 + 1)) + 1)), (wrap64 (x5_1 + 1)), (by first | rfl | (simp; done) | (simp [*]; done) | (simp; exact (fun l : List UInt8 => (by cases l <;> rfl : l.isEmpty = !(l != []))) _)), (by first | rfl | (simp; done) | (simp [*]; done) | (simp; exact (fun l : List UInt8 => (by cases l <;> rfl : l.isEmpty = !(l != []))) _)), H', ⟨by have := HK1.out; omega⟩, ⟨by (with_reducible repeat (first | apply Kd.R_alloc | apply Kd.R_drewN | apply Kd.R_drew)); exact HO_0.out⟩, ⟨by repeat (first | (with_reducible first | exact HK.out | apply Kept.alloc | apply Kept.drewN | apply Kept.drew) | exact HK.out)⟩, ⟨by repeat (first | (with_reducible first | exact HB.out | apply below_alloc | apply pw_below_drewN | apply below_drew1) | exact HB.out)⟩⟩
        · rw [if_neg c4] at H
          exact absurd H (by simp)
      · rw [if_neg c3] at H
        have c3b0 : decide (x5_1 < (x0_1.length : Int)) = false := decide_eq_false c3
        clear c3
        simp only [Option.some.injEq, Prod.mk.injEq] at H
        obtain ⟨rfl, rfl⟩ := H
        obtain ⟨Ao12, co12, eo12⟩ := Kd.R_slice HO_0.out
        subst eo12
        go_wp2
        go_ret
        exact ⟨by first | rfl | (simp [errW_none, errW_some] <;> rfl) | (simp [*, errW_none, errW_some] <;> rfl), by (with_reducible repeat (first | apply Kd.R_alloc | apply Kd.R_drewN | apply Kd.R_drew)); exact HO_0.out, by repeat (first | (with_reducible first | exact HB.out | apply below_alloc | apply pw_below_drewN | apply below_drew1) | exact HB.out), by repeat (first | (with_reducible first | exact HK.out | apply Kept.alloc | apply Kept.drewN | apply Kept.drew) | exact HK.out)⟩

/-! ### laws_heldTimerS: function 31 -/
def laws_heldTimerS.l0 : Nat → List (S45) → Int → Int → Option (Int)
  | 0, _, _, _ => none
  | k + 1, x0, x1, x5 => if x5 < (x0.length : Int) then (if 0 ≤ x5 then (if ((rd_T45 x0 x5).f0) = x1 then (if ((rd_T45 x0 x5).f1) = (wrap64 (x1 + 1)) then (laws_heldTimerS.l0 k x0 (wrap64 ((wrap64 (x1 + 1)) + 1)) (wrap64 (x5 + 1))) else (some (-1))) else (some (-1))) else (none)) else (some x1)
def laws_heldTimerS.f (k : Nat) (l0 : List (S45)) (a1 : Int) : Option (Int) := laws_heldTimerS.l0 k l0 a1 0
theorem laws_heldTimerS.mono_l : ∀ k, (∀ y0 y1 y2, LeO (laws_heldTimerS.l0 k y0 y1 y2) (laws_heldTimerS.l0 (k + 1) y0 y1 y2))
  | 0 => fun _ _ _ r h => by simp [laws_heldTimerS.l0] at h
  | k + 1 => by
    have ih0 := laws_heldTimerS.mono_l k
    · intro y0 y1 y2
      unfold laws_heldTimerS.l0
      repeat' first
      | (with_reducible exact ih0 _ _ _)
      | (with_reducible exact LeO.refl _)
      | (with_reducible exact LeO.none _)
      | (with_reducible refine LeO.ite ?_ ?_)
      | (with_reducible refine LeO.bind ?_ (fun _ => ?_))
      | exact ih0 _ _ _
      | exact LeO.none _
      | refine LeO.ite ?_ ?_
      | refine LeO.bind ?_ (fun _ => ?_)
theorem laws_heldTimerS.mono : ∀ a0 a1 k, LeO (laws_heldTimerS.f k a0 a1) (laws_heldTimerS.f (k + 1) a0 a1) := by
  intro a0 a1 k
  have ih0 := laws_heldTimerS.mono_l k
  unfold laws_heldTimerS.f
  repeat' first
      | (with_reducible exact ih0 _ _ _)
      | (with_reducible exact LeO.refl _)
      | (with_reducible exact LeO.none _)
      | (with_reducible refine LeO.ite ?_ ?_)
      | (with_reducible refine LeO.bind ?_ (fun _ => ?_))
      | exact ih0 _ _ _
      | exact LeO.none _
      | refine LeO.ite ?_ ?_
      | refine LeO.bind ?_ (fun _ => ?_)
set_option maxHeartbeats 8000000 in
set_option maxRecDepth 100000 in
theorem laws_heldTimerS.calls (k : Nat) (A0 : Option Addr) (c0 : Nat) (l0 : List (S45)) (a1 : Int) (r : Int) (w : World) (hr0 : Kd.C k45 w A0 l0.length l0) (hc0 : l0.length ≤ c0) (h : laws_heldTimerS.f k l0 a1 = some r) :
    Calls Try.prog 31 #[.slice A0 l0.length c0, .int .i64 a1] w fun e w' => e = .returned (.int .i64 r) ∧ Drawn0 w w' := by
  have HR0 := Aside0.mk hr0
  have HC0 := Aside0.mk hc0
  clear hr0 hc0
  have H : (laws_heldTimerS.l0 k l0 a1 0) = some r := h
  clear h
  have H' := Aside0.mk H
  clear H
  go_enter Try.func31, Try.ntmps31
  go_wp2
  go_loopg [1, 5] k (fun kq v1 v5 w' => ∃ (x1_1 : Int) (x5_1 : Int), v1 = .int .i64 x1_1 ∧ v5 = .int .i64 x5_1 ∧ Aside0 (laws_heldTimerS.l0 kq l0 x1_1 x5_1 = some r) ∧ Aside0 (kq ≤ k) ∧ Drawn0 w w')
  case atStart => exact ⟨(a1), (0), (by first | rfl | (simp; done) | (simp [*]; done) | (simp; exact (fun l : List UInt8 => (by cases l <;> rfl : l.isEmpty = !(l != []))) _)), (by first | rfl | (simp; done) | (simp [*]; done) | (simp; exact (fun l : List UInt8 => (by cases l <;> rfl : l.isEmpty = !(l != []))) _)), H', ⟨Nat.le_refl _⟩, by repeat (first | exact Drawn0.refl _ | apply Drawn0.step)⟩
  case round =>
    clear H'
    try clear p2
    obtain ⟨x1_1, x5_1, rfl, rfl, HA, HK1, ⟨m1, rfl⟩⟩ := hrel
    cases gk with
    | zero => exact absurd HA.out (by simp [laws_heldTimerS.l0])
    | succ k1 =>
      have H := HA.out
      clear HA
      simp only [laws_heldTimerS.l0] at H
      by_cases c3 : x5_1 < (l0.length : Int)
      · rw [if_pos c3] at H
        have c3b0 : decide (x5_1 < (l0.length : Int)) = true := decide_eq_true c3
        clear c3
        by_cases c4 : 0 ≤ x5_1
        · rw [if_pos c4] at H
          have c4b0 : decide (0 ≤ x5_1) = true := decide_eq_true c4
          clear c4
          by_cases c5 : ((rd_T45 l0 x5_1).f0) = x1_1
          · rw [if_pos c5] at H
            have c5b0 : (((rd_T45 l0 x5_1).f0) == x1_1) = true := beq_iff_eq.mpr c5
            have c5b1 : (((rd_T45 l0 x5_1).f0) != x1_1) = false := bne_eq_false_iff_eq.mpr c5
            clear c5
            by_cases c6 : ((rd_T45 l0 x5_1).f1) = (wrap64 (x1_1 + 1))
            · rw [if_pos c6] at H
              have c6b0 : (((rd_T45 l0 x5_1).f1) == (wrap64 (x1_1 + 1))) = true := beq_iff_eq.mpr c6
              have c6b1 : (((rd_T45 l0 x5_1).f1) != (wrap64 (x1_1 + 1))) = false := bne_eq_false_iff_eq.mpr c6
              clear c6
              have H' := Aside0.mk H
              clear H
              have p222 : 0 ≤ (x5_1 : Int) := of_decide_eq_true (by first | (with_reducible assumption) | assumption)
              have q222 : x5_1 < (l0.length : Int) := of_decide_eq_true (by first | (with_reducible assumption) | assumption)
              obtain ⟨ad222, e222, hx222_0, hx222_1⟩ := at_T45 HR0.out x5_1 p222 q222
              cases e222
              replace p222 := eq_true p222
              replace q222 := eq_true q222
              have p223 : 0 ≤ (x5_1 : Int) := of_decide_eq_true (by first | (with_reducible assumption) | assumption)
              have q223 : x5_1 < (l0.length : Int) := of_decide_eq_true (by first | (with_reducible assumption) | assumption)
              obtain ⟨ad223, e223, hx223_0, hx223_1⟩ := at_T45 HR0.out x5_1 p223 q223
              obtain rfl : ad222 = ad223 := (by injection e223)
              replace p223 := eq_true p223
              replace q223 := eq_true q223
              go_wp2
              go_roundg k1
              case measure => have := HK1.out; omega
              case rel => exact ⟨(wrap64 ((wrap64 (x1_1 + 1)) + 1)), (wrap64 (x5_1 + 1)), (by first | rfl | (simp; done) | (simp [*]; done) | (simp; exact (fun l : List UInt8 => (by cases l <;> rfl : l.isEmpty = !(l != []))) _)), (by first | rfl | (simp; done) | (simp [*]; done) | (simp; exact (fun l : List UInt8 => (by cases l <;> rfl : l.isEmpty = !(l != []))) _)), H', ⟨by have := HK1.out; omega⟩, by repeat (first | exact Drawn0.refl _ | apply Drawn0.step)⟩
            · rw [if_neg c6] at H
              have c6b0 : (((rd_T45 l0 x5_1).f1) == (wrap64 (x1_1 + 1))) = false := beq_eq_false_iff_ne.mpr c6
              have c6b1 : (((rd_T45 l0 x5_1).f1) != (wrap64 (x1_1 + 1))) = true := bne_iff_ne.mpr c6
              obtain rfl := Option.some.inj H
              have p222 : 0 ≤ (x5_1 : Int) := of_decide_eq_true (by first | (with_reducible assumption) | assumption)
              have q222 : x5_1 < (l0.length : Int) := of_decide_eq_true (by first | (with_reducible assumption) | assumption)
              obtain ⟨ad222, e222, hx222_0, hx222_1⟩ := at_T45 HR0.out x5_1 p222 q222
              cases e222
              replace p222 := eq_true p222
              replace q222 := eq_true q222
              have p223 : 0 ≤ (x5_1 : Int) := of_decide_eq_true (by first | (with_reducible assumption) | assumption)
              have q223 : x5_1 < (l0.length : Int) := of_decide_eq_true (by first | (with_reducible assumption) | assumption)
              obtain ⟨ad223, e223, hx223_0, hx223_1⟩ := at_T45 HR0.out x5_1 p223 q223
              obtain rfl : ad222 = ad223 := (by injection e223)
              replace p223 := eq_true p223
              replace q223 := eq_true q223
              go_wp2
              go_ret
              exact ⟨by first | rfl | (simp; done) | (simp [*]; done), by repeat (first | exact Drawn0.refl _ | apply Drawn0.step)⟩
          · rw [if_neg c5] at H
            have c5b0 : (((rd_T45 l0 x5_1).f0) == x1_1) = false := beq_eq_false_iff_ne.mpr c5
            have c5b1 : (((rd_T45 l0 x5_1).f0) != x1_1) = true := bne_iff_ne.mpr c5
            obtain rfl := Option.some.inj H
            have p222 : 0 ≤ (x5_1 : Int) := of_decide_eq_true (by first | (with_reducible assumption) | assumption)
            have q222 : x5_1 < (l0.length : Int) := of_decide_eq_true (by first | (with_reducible assumption) | assumption)
            obtain ⟨ad222, e222, hx222_0, hx222_1⟩ := at_T45 HR0.out x5_1 p222 q222
            cases e222
            replace p222 := eq_true p222
            replace q222 := eq_true q222
            go_wp2
            go_ret
            exact ⟨by first | rfl | (simp; done) | (simp [*]; done), by repeat (first | exact Drawn0.refl _ | apply Drawn0.step)⟩
        · rw [if_neg c4] at H
          exact absurd H (by simp)
      · rw [if_neg c3] at H
        have c3b0 : decide (x5_1 < (l0.length : Int)) = false := decide_eq_false c3
        clear c3
        obtain rfl := Option.some.inj H
        go_wp2
        go_ret
        exact ⟨by first | rfl | (simp; done) | (simp [*]; done), by repeat (first | exact Drawn0.refl _ | apply Drawn0.step)⟩

end Go.Proofs.Ytgmjfdehladelaa.PFnExactTimersIn
