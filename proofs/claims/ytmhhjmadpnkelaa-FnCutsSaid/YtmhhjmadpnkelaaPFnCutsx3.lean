-- written by xprint.py (a program of this session's, over the kit's print): printed functions, and some by hand
import Derived.Test.YtmhhjmadpnkelaaPFnCutsx0
import Derived.Test.YtmhhjmadpnkelaaPFnCutsx2
namespace Go.Proofs.Ytmhhjmadpnkelaa.PFnCuts
open Go.RowKit Go.Proofs.YtmhhjmadpnkelaaW.PrintWords Go.Proofs.YtmhhjmadpnkelaaW.PrintLast Go.Proofs.YtmhhjmadpnkelaaW.PrintMore
attribute [local go_sem] max2_int min2_int max_two min_two max_three min_three max_four min_four   -- for this text's walks alone
set_option linter.unusedVariables false
set_option linter.unusedSimpArgs false

/-! ### impl_joined: function 49 -/
def impl_joined.l0 : Nat → List Int → List Int → List Int → Int → Int → Option (List Int)
 | 0, _, _, _, _, _ => none
 | k + 1, x1, x5, x9, x10, x11 => if x11 < x10 then (if 0 ≤ x11 then (if x11 < (x9.length : Int) then (if x11 < (x1.length : Int) then (if x5.length < 17592186044416 then (impl_joined.l0 k x1 (x5 ++ [mx (rd x9 x11) (rd x1 x11)]) x9 x10 (wrap64 (x11 + 1))) else (none)) else (none)) else (none)) else (none)) else (some x5)
def impl_joined.f (k : Nat) (l0 : List Int) (l1 : List Int) : Option (List Int) := impl_joined.l0 k l1 (([] : List Int)) l0 (l0.length : Int) 0
theorem impl_joined.mono_l : ∀ k, (∀ y0 y1 y2 y3 y4, LeO (impl_joined.l0 k y0 y1 y2 y3 y4) (impl_joined.l0 (k + 1) y0 y1 y2 y3 y4))
 | 0 => fun _ _ _ _ _ r h => by simp [impl_joined.l0] at h
 | k + 1 => by
  have ih0 := impl_joined.mono_l k
  ·intro y0 y1 y2 y3 y4
   unfold impl_joined.l0
   repeat' first
   | (with_reducible exact ih0 _ _ _ _ _)
   | (with_reducible exact LeO.refl _)
   | (with_reducible exact LeO.none _)
   | (with_reducible refine LeO.ite ?_ ?_)
   | (with_reducible refine LeO.bind ?_ (fun _ => ?_))
   | exact ih0 _ _ _ _ _
   | exact LeO.none _
   | refine LeO.ite ?_ ?_
   | refine LeO.bind ?_ (fun _ => ?_)
theorem impl_joined.mono : ∀ a0 a1 k, LeO (impl_joined.f k a0 a1) (impl_joined.f (k + 1) a0 a1) := by
 intro a0 a1 k
 have ih0 := impl_joined.mono_l k
 unfold impl_joined.f
 repeat' first
   | (with_reducible exact ih0 _ _ _ _ _)
   | (with_reducible exact LeO.refl _)
   | (with_reducible exact LeO.none _)
   | (with_reducible refine LeO.ite ?_ ?_)
   | (with_reducible refine LeO.bind ?_ (fun _ => ?_))
   | exact ih0 _ _ _ _ _
   | exact LeO.none _
   | refine LeO.ite ?_ ?_
   | refine LeO.bind ?_ (fun _ => ?_)
set_option maxHeartbeats 8000000 in
set_option maxRecDepth 100000 in
theorem impl_joined.calls (k : Nat) (A0 : Option Addr) (c0 : Nat) (l0 : List Int) (A1 : Option Addr) (c1 : Nat) (l1 : List Int) (r : List Int) (w : World) (hr0 : Kd.C (Kd.int .i64) w A0 l0.length l0) (hc0 : l0.length ≤ c0) (hr1 : Kd.C (Kd.int .i64) w A1 l1.length l1) (hc1 : l1.length ≤ c1) (h : impl_joined.f k l0 l1 = some r) :
  Calls Try.prog 49 #[.slice A0 l0.length c0, .slice A1 l1.length c1] w fun e w' => ∃ v0_ : Value, e = .returned (v0_) ∧ Kd.R (Kd.int .i64) 3 w' w.heap.size (fun _ => True) v0_ r ∧ Below w.heap.size w w' := by
 have HR0 := Aside0.mk hr0
 have HC0 := Aside0.mk hc0
 clear hr0 hc0
 have HR1 := Aside0.mk hr1
 have HC1 := Aside0.mk hc1
 clear hr1 hc1
 have HB := Aside0.mk (Below.refl w.heap.size w)
 have H : (impl_joined.l0 k l1 (([] : List Int)) l0 (l0.length : Int) 0) = some r := h
 clear h
 obtain ⟨y107, hy107⟩ : ∃ y_ : List Int, y_ = (([] : List Int)) := ⟨_, rfl⟩
 replace H : (impl_joined.l0 k l1 y107 l0 (l0.length : Int) 0) = some r := by first | (rw [hy107]; with_reducible exact H) | (have H2_ := (Option.bind_some _ _).symm.trans H; rw [hy107]; with_reducible exact H2_) | (have H2_ := (Option.bind_some _ _).symm.trans H; with_reducible exact H2_) | with_reducible exact H | (rw [hy107]; exact H) | exact H
 have Ny107 := Aside0.mk hy107
 clear hy107
 have H' := Aside0.mk H
 clear H
 go_enter Try.func49, Try.ntmps49
 go_wp2_with (first | ((with_reducible refine gate_dst (N := 8) rfl ?_); refine Kd.R_lit (Kd.int .i64) _ 3 ?hg (N := 8) ?hd (xs := ([] : List Int)) (inner := []) (ok := fun _ => True) (okp := fun _ => True) ?hr ?hp (fun _ hk => hk) trivial (Below.refl _ _) (Nat.le_refl _) (by simp) ?_; (case hd => rfl); (case hg => rfl); (case hr => first | (go_simp; done) | (go_simp; rfl)); (case hp => exact (Reps.none _ _)); intro v108 w3 ho4 hb hg_ hnew_; clear hg_ hnew_; (first | rw [← Ny107.out] at ho4 | (simp only [Int.reduceToNat] at ho4; rw [← Ny107.out] at ho4)); have n0_ := Aside0.mk (Kd.R_lower ho4 (below_size (by repeat (first | (with_reducible first | exact HB.out | apply below_alloc | apply pw_below_drewN | apply below_drew1) | exact HB.out)))); have n1_ := Aside0.mk (below_step (by repeat (first | (with_reducible first | exact HB.out | apply below_alloc | apply pw_below_drewN | apply below_drew1) | exact HB.out)) hb); clear HB; have HO109 := n0_; have HB := n1_; clear n0_ n1_; clear hb ho4))
 go_loopg [5, 11] k (fun kq v5 v11 w' => ∃ (x5_1 : List Int) (x11_1 : Int), v11 = .int .i64 x11_1 ∧ Aside0 (impl_joined.l0 kq l1 x5_1 l0 (l0.length : Int) x11_1 = some r) ∧ Aside0 (kq ≤ k) ∧ Aside0 (Kd.R (Kd.int .i64) 3 w' w.heap.size (fun _ => True) v5 x5_1) ∧ Aside0 (Below w.heap.size w w'))
 case atStart => exact ⟨(y107), (0), (by first | rfl | (simp; done) | (simp [*]; done)), H', ⟨Nat.le_refl _⟩, ⟨by (with_reducible repeat (first | apply Kd.R_alloc | apply Kd.R_drewN | apply Kd.R_drew)); exact HO109.out⟩, ⟨by repeat (first | (with_reducible first | exact HB.out | apply below_alloc | apply pw_below_drewN | apply below_drew1) | exact HB.out)⟩⟩
 case round =>
  clear H'
  try clear c1
  try clear p2
  try clear c4
  obtain ⟨x5_1, x11_1, rfl, HA, HK1, HO_5, HB⟩ := hrel
  cases gk with
  | zero => exact absurd HA.out (by simp [impl_joined.l0])
  | succ k1 =>
   have H := HA.out
   clear HA
   simp only [impl_joined.l0] at H
   by_cases c5 : x11_1 < (l0.length : Int)
   ·rw [if_pos c5] at H
    have c5b0 : decide (x11_1 < (l0.length : Int)) = true := decide_eq_true c5
    clear c5
    by_cases c6 : 0 ≤ x11_1
    ·rw [if_pos c6] at H
     have c6b0 : decide (0 ≤ x11_1) = true := decide_eq_true c6
     clear c6
     by_cases c7 : x11_1 < (l0.length : Int)
     ·rw [if_pos c7] at H
      have c7b0 : decide (x11_1 < (l0.length : Int)) = true := decide_eq_true c7
      clear c7
      by_cases c8 : x11_1 < (l1.length : Int)
      ·rw [if_pos c8] at H
       have c8b0 : decide (x11_1 < (l1.length : Int)) = true := decide_eq_true c8
       clear c8
       obtain ⟨ji9, hji9⟩ : ∃ j_ : Int, (mx (rd l0 x11_1) (rd l1 x11_1)) = j_ := ⟨_, rfl⟩
       replace H : (if x5_1.length < 17592186044416 then (impl_joined.l0 k1 l1 (x5_1 ++ [ji9]) l0 (l0.length : Int) (wrap64 (x11_1 + 1))) else (none)) = some r := by first | (rw [hji9] at H; exact H) | (simp only [hji9] at H ⊢; exact H)
       have hji9_ : (if (rd l0 x11_1) < (rd l1 x11_1) then (rd l1 x11_1) else (rd l0 x11_1)) = ji9 := hji9
       by_cases c10 : x5_1.length < 17592186044416
       ·rw [if_pos c10] at H
        have LMc10 := Aside0.mk c10
        clear c10
        obtain ⟨y112, hy112⟩ : ∃ y_ : List Int, y_ = (x5_1 ++ [ji9]) := ⟨_, rfl⟩
        replace H : (impl_joined.l0 k1 l1 y112 l0 (l0.length : Int) (wrap64 (x11_1 + 1))) = some r := by first | (rw [hy112]; with_reducible exact H) | (have H2_ := (Option.bind_some _ _).symm.trans H; rw [hy112]; with_reducible exact H2_) | (have H2_ := (Option.bind_some _ _).symm.trans H; with_reducible exact H2_) | with_reducible exact H | (rw [hy112]; exact H) | exact H
        have Ny112 := Aside0.mk hy112
        clear hy112
        have H' := Aside0.mk H
        clear H
        have p110 : 0 ≤ (x11_1 : Int) := of_decide_eq_true (by first | (with_reducible assumption) | assumption)
        have q110 : x11_1 < (l0.length : Int) := of_decide_eq_true (by first | (with_reducible assumption) | assumption)
        obtain ⟨ad110, e110, hx110_0⟩ := Kd.at_int HR0.out x11_1 p110 q110
        cases e110
        try replace hx110_0 := (HB.out.cell (World.block_lt_of_cell? w _ hx110_0)).trans hx110_0
        replace p110 := eq_true p110
        replace q110 := eq_true q110
        have p111 : 0 ≤ (x11_1 : Int) := of_decide_eq_true (by first | (with_reducible assumption) | assumption)
        have q111 : x11_1 < (l1.length : Int) := of_decide_eq_true (by first | (with_reducible assumption) | assumption)
        obtain ⟨ad111, e111, hx111_0⟩ := Kd.at_int HR1.out x11_1 p111 q111
        cases e111
        try replace hx111_0 := (HB.out.cell (World.block_lt_of_cell? w _ hx111_0)).trans hx111_0
        replace p111 := eq_true p111
        replace q111 := eq_true q111
        go_wp2_with (first | ((with_reducible refine gate_builtin (b := .append) (xs := #[.tmp 16, .tmp 23]) rfl ?_); at_builtin; refine Kd.R_append (Kd.int .i64) (w0 := w) w.heap.size rfl (.tmp 16) (.tmp 23) 29 3 (.int .i64 0) 8 rfl Try.underlying29 info3 rfl (by decide) (by omega) u5 x5_1 ji9 [.int .i64 ji9] (fun _ => True) (fun _ => False) rfl rfl ?aP (fun _ hk => hk.elim) ?aF ?aO ?aB ?aS ?aL ?_; (case aP => exact rfl); (case aB => exact (by repeat (first | (with_reducible first | exact HB.out | apply below_alloc | apply pw_below_drewN | apply below_drew1) | exact HB.out))); (case aF => exact (fun _ _ => trivial)); (case aO => exact (by (with_reducible repeat (first | apply Kd.R_alloc | apply Kd.R_drewN | apply Kd.R_drew)); exact HO_5.out)); (case aS => exact (below_size (by repeat (first | (with_reducible first | exact HB.out | apply below_alloc | apply pw_below_drewN | apply below_drew1) | exact HB.out)))); (case aL => have := LMc10.out; omega); intro v113 w11 ho hb hg hat; rw [← Ny112.out] at ho; have n0_ := Aside0.mk (hb); have n1_ := Aside0.mk (ho); clear HB; clear HO_5; have HB := n0_; have HO114 := n1_; clear n0_ n1_; clear ho hb hg hat))
        go_roundg k1
        case measure => have := HK1.out; omega
        case rel => exact ⟨(y112), (wrap64 (x11_1 + 1)), (by first | rfl | (simp; done) | (simp [*]; done)), H', ⟨by have := HK1.out; omega⟩, ⟨by (with_reducible repeat (first | apply Kd.R_alloc | apply Kd.R_drewN | apply Kd.R_drew)); exact HO114.out⟩, ⟨by repeat (first | (with_reducible first | exact HB.out | apply below_alloc | apply pw_below_drewN | apply below_drew1) | exact HB.out)⟩⟩
       ·rw [if_neg c10] at H
        exact absurd H (by simp)
      ·rw [if_neg c8] at H
       exact absurd H (by simp)
     ·rw [if_neg c7] at H
      exact absurd H (by simp)
    ·rw [if_neg c6] at H
     exact absurd H (by simp)
   ·rw [if_neg c5] at H
    have c5b0 : decide (x11_1 < (l0.length : Int)) = false := decide_eq_false c5
    clear c5
    obtain rfl := Option.some.inj H
    go_wp2
    go_ret
    exact ⟨_, by first | rfl | (simp [errW_none, errW_some] <;> rfl) | (simp [*, errW_none, errW_some] <;> rfl), by (with_reducible repeat (first | apply Kd.R_alloc | apply Kd.R_drewN | apply Kd.R_drew)); exact HO_5.out, by repeat (first | (with_reducible first | exact HB.out | apply below_alloc | apply pw_below_drewN | apply below_drew1) | exact HB.out)⟩

/-! ### impl_vectors: function 53, by hand -/
/-- a copy of y over the front of x -/
def overL (x y : List Int) : List Int := y.take (min y.length x.length) ++ x.drop (min y.length x.length)
/-- the vectors of the acts that are left -/
def vecGo (k : Nat) (a0 : Int) : List S57 → List (List Int) → List (List Int) → Option (List (List Int))
 | [], out, _ => some out
 | a :: l, out, last =>
  if 0 ≤ a.f0 ∧ a.f0 < last.length then
   ((if a.f1 = -1 then some (overL (List.replicate a0.toNat 0) (last.getD a.f0.toNat [])) else if 0 ≤ a.f1 ∧ a.f1 < out.length then impl_joined.f k (overL (List.replicate a0.toNat 0) (last.getD a.f0.toNat [])) (out.getD a.f1.toNat []) else none).bind fun v =>
    if a.f0 < v.length ∧ out.length < 1000000 then vecGo k a0 l (out ++ [v.set a.f0.toNat (wrap64 (rd v a.f0 + 1))]) (last.set a.f0.toNat (v.set a.f0.toNat (wrap64 (rd v a.f0 + 1)))) else none)
  else none
def impl_vectors.f (k : Nat) (a0 : Int) (l1 : List S57) : Option (List (List Int)) := if 0 ≤ a0 ∧ a0 ≤ 1000000 then vecGo k a0 l1 [] (List.replicate a0.toNat []) else none
theorem vecGo_mono (k : Nat) (a0 : Int) : ∀ (l : List S57) (x y : List (List Int)), LeO (vecGo k a0 l x y) (vecGo (k + 1) a0 l x y)
 | [], _, _ => LeO.refl _
 | a :: l, x, y => by
  simp only [vecGo]
  exact LeO.ite (LeO.bind (LeO.ite (LeO.refl _) (LeO.ite (impl_joined.mono _ _ _) (LeO.refl _))) (fun _ => LeO.ite (vecGo_mono k a0 l _ _) (LeO.refl _))) (LeO.refl _)
theorem impl_vectors.mono : ∀ a0 a1 k, LeO (impl_vectors.f k a0 a1) (impl_vectors.f (k + 1) a0 a1) := by
 intro a0 a1 k
 unfold impl_vectors.f
 exact LeO.ite (vecGo_mono _ _ _ _ _) (LeO.refl _)
theorem vec_at {w : World} {A : Option Addr} {n : Nat} {xs : List (List Int)} (h : Kd.C (Kd.slice 3 (Kd.int .i64)) w A n xs) (i : Int) (h0 : 0 ≤ i) (h1 : i < n) : ∃ ad A0 c0, A = some ad ∧ w.cell? (ad.add i.toNat) = some (.slice A0 (xs.getD i.toNat []).length c0) ∧ (xs.getD i.toNat []).length ≤ c0 ∧ (Kd.int .i64).C w A0 (xs.getD i.toNat []).length (xs.getD i.toNat []) := by
 obtain ⟨ad, c, e, _, hK, hc0⟩ := Kd.C_get h ([] : List Int) i h0 h1
 have hc : ∀ j u, c[j]? = some u → w.cell? (ad.add (i.toNat * 1 + j)) = some u := hc0
 obtain ⟨A0, c0, rfl, l0, g0⟩ := hK
 exact ⟨ad, A0, c0, e, by have hq := hc 0 _ rfl; rwa [Nat.mul_one, Nat.add_zero] at hq, l0, g0⟩
theorem vec_put {W : World} {base g n cap : Nat} {ok okp : Nat → Prop} {xs : List (List Int)} {vv : List Int} {V : Value} (h : Kd.N (Kd.slice 3 (Kd.int .i64)) 29 W base ok (.slice (some ⟨g, 0, none⟩) n cap) xs) (i : Int) (h0 : 0 ≤ i) (h1 : i < n)
  (hM : Kd.FK (Kd.slice 3 (Kd.int .i64)) W okp vv [V]) (hokp : ∀ k, okp k → ok k ∧ k ≠ g) : Kd.N (Kd.slice 3 (Kd.int .i64)) 29 (W.setCell ⟨g, i.toNat, none⟩ V) base ok (.slice (some ⟨g, 0, none⟩) n cap) (xs.set i.toNat vv) := by
 obtain ⟨c, hcl, _, hcc, _⟩ := Kd.N_elem h [] i h0 h1
 have hc1 : c.length = 1 := hcl
 have e : c.take 0 ++ [V] ++ c.drop (0 + 1) = [V] := by rw [List.take_zero, List.nil_append, List.drop_of_length_le (by omega), List.append_nil]
 have h2 := (Kd.N_seg h i h0 h1 (c := c) (seg := [V]) (j := 0) hcl hcc (Nat.le_refl 1) (x' := vv) (by rw [show 0 + [V].length = 0 + 1 from rfl, e]; exact hM) hokp).1
 have e2 : i.toNat * (Kd.slice 3 (Kd.int .i64)).sz + 0 = i.toNat := Nat.mul_one _
 rw [e2] at h2
 exact h2
set_option maxHeartbeats 8000000 in
set_option maxRecDepth 100000 in
theorem impl_vectors.calls (k : Nat) (a0 : Int) (A1 : Option Addr) (c1 : Nat) (l1 : List (S57)) (r : List (List Int)) (w : World) (hr1 : Kd.C k57 w A1 l1.length l1) (hc1 : l1.length ≤ c1) (h : impl_vectors.f k a0 l1 = some r) :
  Calls Try.prog 53 #[.int .i64 a0, .slice A1 l1.length c1] w fun e w' => ∃ v0_ : Value, e = .returned (v0_) ∧ Kd.S (Kd.slice 3 (Kd.int .i64)) 29 w' w.heap.size (fun _ => True) v0_ r ∧ Below w.heap.size w w' := by
 have hu57 := Try.underlying57
 unfold impl_vectors.f at h
 by_cases hc : 0 ≤ a0 ∧ a0 ≤ 1000000
 ·rw [if_pos hc] at h
  have HF := Aside0.mk h
  have HR1 := Aside0.mk hr1
  have HC1 := Aside0.mk hc1
  have HB := Aside0.mk (Below.refl w.heap.size w)
  have HA := Aside0.mk (decide_eq_true hc.1)
  have HA2 := Aside0.mk (decide_eq_true hc.2)
  have HLn := Aside0.mk hr1.2.1
  clear hr1 hc1 h hc
  go_enter Try.func53, Try.ntmps53
  go_wp2_with fail
  have HB0 := Aside0.mk (below_drew1 HB.out)
  clear HB
  have HB := HB0
  clear HB0
  refine start_ (n := 5) (S := fun w' => True) (ds := []) #[false, false, false, false, false] (by kernel_rfl) rfl rfl trivial (fun hHeld => ?_)
  generalize w.drew = w8 at HB hHeld ⊢
  refine pure_ (i := 1) (N := some 11) (v := ?_) (a' := ?_) #[false, true, false, false, false] rfl rfl (by kernel_rfl) (fun _ _ _ h => h) (Or.inl ⟨by rfl, ?_⟩) ?_ ?_
  rotate_left
  ·intro w'
   go_simp
   with_reducible rfl
  rotate_left
  ·simp only [Act.put, List.setIfInBounds_toArray, List.set_cons_zero, List.set_cons_succ, i64_w, i32_w]
   rfl
  refine join_ (σ := Value × Value) 1 #[true, true, true, true, false] (fun s_ => [(10, s_.1), (12, s_.2), (5, s_.1)]) (fun s_ w' => (Kd.S (Kd.slice 3 (Kd.int .i64)) 29 w' w.heap.size (fun k_ => w.heap.size ≤ k_ ∧ some k_ ≠ (s_.2 : Value).ownBlock) s_.1 []) ∧ (Kd.N (Kd.slice 3 (Kd.int .i64)) 29 w' w.heap.size (fun k_ => w.heap.size ≤ k_ ∧ some k_ ≠ (s_.1 : Value).ownBlock) s_.2 (List.replicate a0.toNat [])) ∧ (Below w.heap.size w w')) ?_ ?_
  rotate_left
  ·intro hCont
   refine two_ (i := 0) (j := 2) (Ni := some 10) (Nj := some 12) #[true, true, false, false, false] #[false, true, true, false, false] rfl rfl rfl rfl (by kernel_rfl) (by decide) (by decide) (fun K hK => ?_) (fun K hK => ?_)
   ·skip
    refine Kd.S_lit_step (Kd.slice 3 (Kd.int .i64)) (w0 := w) w.heap.size 29 ?hg (N := 10) ?hd (xs := ([] : List (List Int))) (inner := []) (ok := fun k_ => w.heap.size ≤ k_) (okp := fun _ => False) ?hr ?hp (fun _ hk => hk.elim) ?hf HB.out HB.out.size (by simp) ?_; (case hd => rfl); (case hg => rfl); (case hr => first | (go_simp; done) | (go_simp; rfl)); (case hp => exact (Reps.none _ _)); (case hf => exact HB.out.size)
    intro v1 w9 ho hb hg hnew
    have HO := Aside0.mk ho
    have HB0 := Aside0.mk hb
    clear HB
    have HB := HB0
    clear HB0 ho hb hg hnew
    refine hK.out _ _ trivial (fun hHeld => ?_)
    clear hK K
    refine norm_ (a' := ?_) ?_ ?_
    rotate_left
    ·show Act.put _ (some 10) _ = _
     simp only [Act.put, List.setIfInBounds_toArray, List.set_cons_zero, List.set_cons_succ, i64_w, i32_w]
     rfl
    refine pure_ (i := 3) (N := some 5) (v := ?_) (a' := ?_) #[true, true, false, true, false] rfl rfl (by kernel_rfl) (fun _ _ _ h => h) (Or.inl ⟨by rfl, ?_⟩) ?_ ?_
    rotate_left
    ·intro w'
     go_simp
     with_reducible rfl
    rotate_left
    ·simp only [Act.put, List.setIfInBounds_toArray, List.set_cons_zero, List.set_cons_succ, i64_w, i32_w]
     rfl
    refine one_ (i := 2) (N := some 12) #[true, true, true, true, false] rfl rfl (by kernel_rfl) (by decide) (fun K hK => ?_)
    refine Kd.N_make_step (Kd.slice 3 (Kd.int .i64)) (w0 := w) w.heap.size 29 (by rfl) (N' := 12) rfl 39 _ _ rfl a0 rfl rfl Try.underlying39 (.slice none 0 0) 24 info29 rfl (by decide) (by omega) [] (ok := fun k_ => w.heap.size ≤ k_ ∧ some k_ ≠ (v1 : Value).ownBlock) (okp := fun _ => False) (fun _ _ => ⟨none, 0, rfl, Nat.le_refl _, by decide, by decide, fun hp => absurd hp (by decide)⟩) (fun _ hk => hk.elim) ?hf (of_decide_eq_true HA.out) ?hl HB.out HB.out.size ?_; (case hf => exact ⟨HB.out.size, fun he => by have := Kd.S_lt HO.out _ he.symm; omega⟩); (case hl => have := of_decide_eq_true HA2.out; omega)
    intro v2 w9 ho hb hg hnew
    have HL := Aside0.mk ho
    have HO1 := Aside0.mk (Kd.S_mono (Kd.S_grown (Kd.S_bound HO.out) hg (fun k hk => by simp)) (ok' := fun k_ => w.heap.size ≤ k_ ∧ some k_ ≠ (v2 : Value).ownBlock) (fun k hk => ⟨hk.1, fun he => by obtain ⟨b, hb1, hb2⟩ := hnew; rw [hb1] at he; injection he with he; have := hk.2.2.1; omega⟩))
    clear HO
    have HO := HO1
    have HB0 := Aside0.mk hb
    clear HB HO1
    have HB := HB0
    clear HB0 ho hb hg hnew
    refine hK.out _ _ trivial (fun hHeld => ?_)
    clear hK K
    refine norm_ (a' := ?_) ?_ ?_
    rotate_left
    ·show Act.put _ (some 12) _ = _
     simp only [Act.put, List.setIfInBounds_toArray, List.set_cons_zero, List.set_cons_succ, i64_w, i32_w]
     rfl
    exact norm_ (by simp only [putAll, Act.put, List.setIfInBounds_toArray, List.set_cons_zero, List.set_cons_succ]) (hCont (v1, v2) _ ⟨HO.out, HL.out, HB.out⟩)
   ·skip
    refine Kd.N_make_step (Kd.slice 3 (Kd.int .i64)) (w0 := w) w.heap.size 29 (by rfl) (N' := 12) rfl 39 _ _ rfl a0 rfl rfl Try.underlying39 (.slice none 0 0) 24 info29 rfl (by decide) (by omega) [] (ok := fun k_ => w.heap.size ≤ k_) (okp := fun _ => False) (fun _ _ => ⟨none, 0, rfl, Nat.le_refl _, by decide, by decide, fun hp => absurd hp (by decide)⟩) (fun _ hk => hk.elim) ?hf (of_decide_eq_true HA.out) ?hl HB.out HB.out.size ?_; (case hf => exact HB.out.size); (case hl => have := of_decide_eq_true HA2.out; omega)
    intro v2 w9 ho hb hg hnew
    have HL := Aside0.mk ho
    have HB0 := Aside0.mk hb
    clear HB
    have HB := HB0
    clear HB0 ho hb hg hnew
    refine hK.out _ _ trivial (fun hHeld => ?_)
    clear hK K
    refine norm_ (a' := ?_) ?_ ?_
    rotate_left
    ·show Act.put _ (some 12) _ = _
     simp only [Act.put, List.setIfInBounds_toArray, List.set_cons_zero, List.set_cons_succ, i64_w, i32_w]
     rfl
    refine one_ (i := 0) (N := some 10) #[true, true, true, false, false] rfl rfl (by kernel_rfl) (by decide) (fun K hK => ?_)
    refine Kd.S_lit_step (Kd.slice 3 (Kd.int .i64)) (w0 := w) w.heap.size 29 ?hg (N := 10) ?hd (xs := ([] : List (List Int))) (inner := []) (ok := fun k_ => w.heap.size ≤ k_ ∧ some k_ ≠ (v2 : Value).ownBlock) (okp := fun _ => False) ?hr ?hp (fun _ hk => hk.elim) ?hf HB.out HB.out.size (by simp) ?_; (case hd => rfl); (case hg => rfl); (case hr => first | (go_simp; done) | (go_simp; rfl)); (case hp => exact (Reps.none _ _)); (case hf => exact ⟨HB.out.size, fun he => by have := Kd.N_lt HL.out _ he.symm; omega⟩)
    intro v1 w9 ho hb hg hnew
    have HO := Aside0.mk ho
    have HL1 := Aside0.mk (Kd.N_mono (Kd.N_grown (Kd.N_bound HL.out) hg (fun k hk => by simp)) (ok' := fun k_ => w.heap.size ≤ k_ ∧ some k_ ≠ (v1 : Value).ownBlock) (fun k hk => ⟨hk.1, fun he => by obtain ⟨b, hb1, hb2⟩ := hnew; rw [hb1] at he; injection he with he; have := hk.2; omega⟩))
    clear HL
    have HL := HL1
    have HB0 := Aside0.mk hb
    clear HB HL1
    have HB := HB0
    clear HB0 ho hb hg hnew
    refine hK.out _ _ trivial (fun hHeld => ?_)
    clear hK K
    refine norm_ (a' := ?_) ?_ ?_
    rotate_left
    ·show Act.put _ (some 10) _ = _
     simp only [Act.put, List.setIfInBounds_toArray, List.set_cons_zero, List.set_cons_succ, i64_w, i32_w]
     rfl
    refine pure_ (i := 3) (N := some 5) (v := ?_) (a' := ?_) #[true, true, true, true, false] rfl rfl (by kernel_rfl) (fun _ _ _ h => h) (Or.inl ⟨by rfl, ?_⟩) ?_ ?_
    rotate_left
    ·intro w'
     go_simp
     with_reducible rfl
    rotate_left
    ·simp only [Act.put, List.setIfInBounds_toArray, List.set_cons_zero, List.set_cons_succ, i64_w, i32_w]
     rfl
    exact norm_ (by simp only [putAll, Act.put, List.setIfInBounds_toArray, List.set_cons_zero, List.set_cons_succ]) (hCont (v1, v2) _ ⟨HO.out, HL.out, HB.out⟩)
  rintro ⟨u0, u1⟩ w13 ⟨h0_, h1_, h2_⟩
  have HO := Aside0.mk h0_
  have HL := Aside0.mk h1_
  clear HB
  have HB := Aside0.mk h2_
  clear h0_ h1_ h2_
  have hHeld := trivial
  refine norm_ (a' := ?_) ?_ ?_
  rotate_left
  ·simp only [putAll, Act.put, List.setIfInBounds_toArray, List.set_cons_zero, List.set_cons_succ]
   rfl
  refine pure_ (i := 4) (N := some 6) (v := ?_) (a' := ?_) #[true, true, true, true, true] rfl rfl (by kernel_rfl) (fun _ _ _ h => h) (Or.inl ⟨by rfl, ?_⟩) ?_ ?_
  rotate_left
  ·intro w'
   go_simp
   with_reducible rfl
  rotate_left
  ·simp only [Act.put, List.setIfInBounds_toArray, List.set_cons_zero, List.set_cons_succ, i64_w, i32_w]
   rfl
  refine done_ (by kernel_rfl) ?_
  try go_wp2
  go_loopg [5, 15] l1.length (fun kq v5 v15 w' => ∃ (xo xl : List (List Int)) (j : Nat), v15 = .int .i64 (j : Int) ∧ Aside0 (kq + j = l1.length) ∧ Aside0 (vecGo k a0 (l1.drop j) xo xl = some r) ∧ Aside0 (Kd.S (Kd.slice 3 (Kd.int .i64)) 29 w' w.heap.size (fun k_ => w.heap.size ≤ k_ ∧ some k_ ≠ (u1 : Value).ownBlock) v5 xo) ∧ Aside0 (Kd.N (Kd.slice 3 (Kd.int .i64)) 29 w' w.heap.size (fun k_ => w.heap.size ≤ k_ ∧ some k_ ≠ (v5 : Value).ownBlock) u1 xl) ∧ Aside0 (Below w.heap.size w w'))
  case atStart => exact ⟨[], _, 0, rfl, ⟨by omega⟩, ⟨by simpa using HF.out⟩, HO, HL, HB⟩
  case round =>
   clear HO HL HB HF
   obtain ⟨xo, xl, j, rfl, HK, HX, HO, HL, HB⟩ := hrel
   by_cases hlt : j < l1.length
   ·have hx := HX.out
    have he : l1.drop j = rd_T57 l1 (j : Int) :: l1.drop (j + 1) := by
     rw [List.drop_eq_getElem_cons hlt]; unfold rd_T57; rw [Int.toNat_natCast, List.getD_eq_getElem?_getD, List.getElem?_eq_getElem hlt]; rfl
    obtain ⟨a, ha⟩ : ∃ a, a = rd_T57 l1 (j : Int) := ⟨_, rfl⟩
    rw [← ha] at he
    rw [he] at hx
    simp only [vecGo] at hx
    by_cases hp : 0 ≤ a.f0 ∧ a.f0 < xl.length
    ·rw [if_pos hp] at hx
     obtain ⟨v, hv, hx⟩ := Option.bind_eq_some_iff.1 hx
     by_cases hq : a.f0 < v.length ∧ xo.length < 1000000
     ·rw [if_pos hq] at hx
      obtain ⟨adk, ek, hk0, hk1⟩ := at_T57 (Kd.C_below HR1.out HB.out) (j : Int) (by omega) (by omega)
      cases ek
      rw [← ha, Int.toNat_natCast] at hk0 hk1
      obtain ⟨gl, capl, el, gl0, gl1, _⟩ := Kd.N_form HL.out (by omega)
      subst el
      obtain ⟨adl, Al, cl, e2, hcl, hcc, hCl⟩ := vec_at (Kd.N_reads' HL.out).2.2 a.f0 hp.1 hp.2
      cases e2
      obtain ⟨p, hpp⟩ : ∃ p, p = a.f0 := ⟨_, rfl⟩
      obtain ⟨f, hff⟩ : ∃ f, f = a.f1 := ⟨_, rfl⟩
      obtain ⟨row, hrow⟩ : ∃ row, row = xl.getD p.toNat [] := ⟨_, rfl⟩
      rw [← hpp] at hk0 hcl hCl hcc hv hx hq hp
      rw [← hff] at hk1 hv
      rw [← hrow] at hcl hCl hcc hv
      have HV0 := Aside0.mk hv
      have HX2 := Aside0.mk hx
      have HQ := Aside0.mk hq
      have HCL := Aside0.mk hCl
      have HP := Aside0.mk hp
      have p0 := eq_true hp.1
      have p1 := eq_true hp.2
      have HW := Aside0.mk (below_alloc (Below.refl wr.heap.size wr) (.cells #[.int .i64 p, .int .i64 f] 57))
      clear hv hx hq hCl he ha hpp hff hrow hp HX
      (try simp only [add_plain] at hcl)
      have lcl := World.block_lt_of_cell? wr _ hcl
      have HA3 := Aside0.mk (show a0.toNat * 8 ≤ 281474976710656 by have := of_decide_eq_true HA2.out; omega)
      have HI3 := Aside0.mk (show (Try.prog.info? 3).map (·.size) = some 1 by kernel_rfl)
      have HA4 := Aside0.mk (of_decide_eq_true HA.out)
      have HVP := Aside0.mk (show 0 < v.length by have := HQ.out.1; have := of_eq_true p0; omega)
      have q1 : (p < (v.length : Int)) = True := eq_true HQ.out.1
      by_cases hf : f = -1
      ·have hf1 : (f != -1) = false := bne_eq_false_iff_eq.mpr hf
       have EV := Aside0.mk (show overL (List.replicate a0.toNat 0) row = v by have := HV0.out; rw [if_pos hf] at this; exact Option.some.inj this)
       clear hf
       go_wp2_with (first | ((with_reducible refine gate_dst (N := 20) rfl ?_); refine Kd.R_make (Kd.int .i64) _ 3 rfl (N := 20) rfl 29 _ _ rfl a0 rfl rfl Try.underlying29 (.int .i64 0) 8 info3 rfl (by decide) (by decide) 0 (ok := fun _ => True) (okp := fun _ => True) rfl (fun _ hk => hk) trivial HA4.out HA3.out (Below.refl _ _) (Nat.le_refl _) ?_; intro v3 w3 ho hb hg hnew; have HV := Aside0.mk (Kd.R_lower ho HW.out.size); have HB3 := Aside0.mk (below_then HW.out HW.out.size hb); have BK8 := Aside0.mk (blk_grown (blk_new wr (.cells #[.int .i64 p, .int .i64 f] 57 (0, 0))) hg (Option.some_ne_none _)); clear ho hb hg hnew; have z0 : w3.cell? ⟨wr.heap.size, 0, none⟩ = some (.int .i64 p) := (blk_cell BK8.out 0).trans rfl; have z1 : w3.cell? ⟨wr.heap.size, 1, none⟩ = some (.int .i64 f) := (blk_cell BK8.out 1).trans rfl; have z2 := (HB3.out.cell lcl).trans hcl) | ((with_reducible refine gate_dst (N := 27) rfl ?_); refine Kd.R_copy (enc := Value.int .i64) (h1 := fun _ => rfl) (0 : Int) (w0 := wr) wr.heap.size rfl (.tmp 21) (.tmp 26) 29 29 3 rfl Try.underlying29 HI3.out v3 (List.replicate a0.toNat 0) row Al row.length cl (fun _ => True) rfl rfl HV.out (Kd.C_below HCL.out HB3.out) HB3.out HB3.out.size ?_; intro w4 ho hb hg; have HV4 : Aside0 (Kd.R (Kd.int .i64) 3 w4 wr.heap.size (fun _ => True) v3 (overL (List.replicate a0.toNat 0) row)) := ⟨ho⟩; have HB4 := Aside0.mk hb; have BK4 := Aside0.mk (blk_grown BK8.out hg (Kd.R_ne HV.out BK8.out (by decide))); clear ho hg hb; have y0 : w4.cell? ⟨wr.heap.size, 0, none⟩ = some (.int .i64 p) := (blk_cell BK4.out 0).trans rfl; have y1 : w4.cell? ⟨wr.heap.size, 1, none⟩ = some (.int .i64 f) := (blk_cell BK4.out 1).trans rfl; have HV5 : Aside0 (Kd.R (Kd.int .i64) 3 w4 wr.heap.size (fun _ => True) v3 v) := ⟨EV.out ▸ HV4.out⟩; clear HV4 HV; obtain ⟨g4, c4, e4, gb4, gl4, _⟩ := Kd.R_form HV5.out HVP.out; subst e4; obtain ⟨ad4, e4, hx4⟩ := Kd.at_int (Kd.R_reads' HV5.out).2.2 p (of_eq_true p0) (of_eq_true q1); cases e4; (first | simp only [add_plain] at hx4 | skip); obtain ⟨hy4, hf4⟩ := Kd.R_celln 0 HV5.out p (of_eq_true p0) (of_eq_true q1); have HP := Kd.R_putg HV5.out p (wrap64 (rd v p + 1)); have GB4 := Aside0.mk gb4; clear gb4))
       have HB6 := Aside0.mk (below_set HB4.out GB4.out (j := p.toNat) (v := .int .i64 (wrap64 (rd v p + 1))))
       have BK6 := Aside0.mk (blk_grown BK4.out HP.2 (Kd.R_ne HV5.out BK4.out (by decide)))
       have HV6 := Aside0.mk HP.1
       clear HP
       obtain ⟨vv, hvv⟩ : ∃ vv, vv = v.set p.toNat (wrap64 (rd v p + 1)) := ⟨_, rfl⟩
       rw [← hvv] at HV6 HX2
       have HO6 := Aside0.mk (Kd.S_below (Kd.S_bound HO.out) HB6.out)
       have HL6 := Aside0.mk (Kd.N_below (Kd.N_bound HL.out) HB6.out)
       generalize w4.setCell ⟨g4, p.toNat, none⟩ (.int .i64 (wrap64 (rd v p + 1))) = w6 at HB6 BK6 HV6 HO6 HL6 ⊢
       have HBw := Aside0.mk (Below.trans HB.out ⟨HB6.out.os, HB6.out.tape, HB6.out.output, HB6.out.size, fun i hi => HB6.out.block i (Nat.lt_of_lt_of_le hi HB.out.size)⟩)
       have s0 : w6.cell? ⟨wr.heap.size, 0, none⟩ = some (.int .i64 p) := (blk_cell BK6.out 0).trans rfl
       have HO7 := Aside0.mk (Kd.S_drew HO6.out)
       have HL7 := Aside0.mk (Kd.N_drew HL6.out)
       have HV7 := Aside0.mk (Kd.R_drew HV6.out)
       have BK7 := Aside0.mk (blk_drew BK6.out)
       have HB7 := Aside0.mk (below_drew1 HB6.out)
       have HBw7 := Aside0.mk (below_drew1 HBw.out)
       clear HO6 HL6 HV6 BK6 HB6 HBw s0
       refine start_ (n := 11) (S := fun w' => w'.cell? ⟨wr.heap.size, 0, none⟩ = some (.int .i64 p)) (ds := [10]) #[false, false, false, false, false, false, false, false, false, false, false] (by kernel_rfl) rfl rfl ((blk_cell BK7.out 0).trans rfl) (fun hHeld => ?_)
       generalize w6.drew = w7 at HO7 HL7 HV7 BK7 HB7 HBw7 hHeld ⊢
       refine pure_ (i := 0) (N := some 45) (v := ?_) (a' := ?_) #[true, false, false, false, false, false, false, false, false, false, false] rfl rfl (by kernel_rfl) (fun _ _ _ h => h) (Or.inl ⟨by rfl, ?_⟩) ?_ ?_
       rotate_left
       ·intro w'
        go_simp
        with_reducible rfl
       rotate_left
       ·simp only [Act.put, List.setIfInBounds_toArray, List.set_cons_zero, List.set_cons_succ, i64_w, i32_w]
        rfl
       refine pure_ (i := 1) (N := some 46) (v := ?_) (a' := ?_) #[true, true, false, false, false, false, false, false, false, false, false] rfl rfl (by kernel_rfl) (fun _ _ _ h => h) (Or.inl ⟨by rfl, ?_⟩) ?_ ?_
       rotate_left
       ·intro w'
        go_simp
        with_reducible rfl
       rotate_left
       ·simp only [Act.put, List.setIfInBounds_toArray, List.set_cons_zero, List.set_cons_succ, i64_w, i32_w]
        rfl
       refine pure_ (i := 3) (N := some 48) (v := ?_) (a' := ?_) #[true, true, false, true, false, false, false, false, false, false, false] rfl rfl (by kernel_rfl) (fun _ _ _ h => h) (Or.inl ⟨by rfl, ?_⟩) ?_ ?_
       rotate_left
       ·intro w'
        go_simp
        with_reducible rfl
       rotate_left
       ·simp only [Act.put, List.setIfInBounds_toArray, List.set_cons_zero, List.set_cons_succ, i64_w, i32_w]
        rfl
       refine pure_ (i := 4) (N := some 49) (v := ?_) (a' := ?_) #[true, true, false, true, true, false, false, false, false, false, false] rfl rfl (by kernel_rfl) (fun _ _ _ h => h) (Or.inl ⟨by rfl, ?_⟩) ?_ ?_
       rotate_left
       ·intro w'
        go_simp
        with_reducible rfl
       rotate_left
       ·simp only [Act.put, List.setIfInBounds_toArray, List.set_cons_zero, List.set_cons_succ, i64_w, i32_w]
        rfl
       refine pure_ (i := 7) (N := some 52) (v := ?_) (a' := ?_) #[true, true, false, true, true, false, false, true, false, false, false] rfl rfl (by kernel_rfl) (fun _ _ _ h => h) (Or.inl ⟨by rfl, ?_⟩) ?_ ?_
       rotate_left
       ·intro w'
        go_simp
        with_reducible rfl
       rotate_left
       ·simp only [Act.put, List.setIfInBounds_toArray, List.set_cons_zero, List.set_cons_succ, i64_w, i32_w]
        rfl
       refine take_ (i := 2) (N := some 47) (v := ?_) (a' := ?_) #[true, true, true, true, true, false, false, true, false, false, false] rfl rfl (by kernel_rfl) (fun _ _ _ h => h) (Or.inl ⟨by rfl, ?_⟩) hHeld ?_ ?_
       rotate_left
       ·intro w' s0
        go_simp
        with_reducible rfl
       rotate_left
       ·simp only [Act.put, List.setIfInBounds_toArray, List.set_cons_zero, List.set_cons_succ, i64_w, i32_w]
        rfl
       refine one_ (i := 5) (N := some 50) #[true, true, true, true, true, true, false, true, false, false, false] rfl rfl (by kernel_rfl) (by decide) (fun K hK => ?_)
       refine value_ (w1 := ?_) (v := ?_) (by rfl) rfl ?_ ?_
       rotate_left 2
       ·go_simp
        constructor
        ·rfl
        ·rfl
       refine hK.out _ _ ((blk_cell (blk_alloc BK7.out _) 0).trans rfl) (fun hHeld => ?_)
       clear hK K
       refine norm_ (a' := ?_) ?_ ?_
       rotate_left
       ·show Act.put _ (some 50) _ = _
        simp only [Act.put, List.setIfInBounds_toArray, List.set_cons_zero, List.set_cons_succ, i64_w, i32_w]
        rfl
       refine one_ (i := 6) (N := some 51) #[true, true, true, true, true, true, true, true, false, false, false] rfl rfl (by kernel_rfl) (by decide) (fun K hK => ?_)
       refine Kd.S_append_step (Kd.slice 3 (Kd.int .i64)) (w0 := w) w.heap.size (by rfl) (.tmp 48) (.tmp 50) 39 29 (.slice none 0 0) 24 rfl Try.underlying39 info29 rfl (by decide) (by decide) u5 xo vv [.slice (some ⟨g4, 0, none⟩) v.length c4] (fun k_ => w.heap.size ≤ k_ ∧ some k_ ≠ (.slice (some ⟨gl, 0, none⟩) xl.length capl : Value).ownBlock) (fun k_ => some k_ = (.slice (some ⟨g4, 0, none⟩) v.length c4 : Value).ownBlock) rfl rfl ?aP ?aK ?aF ?aO HBw7.out HBw7.out.size ?aL ?_
       case aP => exact Kd.M_row (Kd.R_lower (Kd.R_tight rfl HV7.out) HB.out.size)
       case aK =>
        intro k_ hk
        have h1 := Kd.R_base HV7.out k_ hk.symm
        have h2 := HB.out.size
        exact ⟨⟨by omega, fun he => by simp [Value.ownBlock] at he; omega⟩, fun he => by have := Kd.S_lt HO.out k_ he.symm; omega⟩
       case aF =>
        intro k_ hk
        have h2 := HB.out.size
        have h3 := HB7.out.size
        exact ⟨by omega, fun he => by simp [Value.ownBlock] at he; omega⟩
       case aO => exact Kd.S_mono HO7.out (fun k_ hk => ⟨hk.1, fun e_ => by have h1 := Kd.R_base HV7.out k_ e_.symm; have h2 := hk.2.2.1; omega⟩)
       case aL => have := HQ.out.2; omega
       intro v6 w8 ho hb hg hat
       have HO8 := Aside0.mk ho
       have HB8 := Aside0.mk hb
       have HL8 := Aside0.mk (Kd.N_grown HL7.out hg (fun k_ hk => hk.1.2))
       have BK8b := Aside0.mk (blk_grown BK7.out hg (fun he => by have := Kd.S_lt HO.out _ he.symm; omega))
       have HAT := Aside0.mk hat
       have HSZ := Aside0.mk HB7.out.size
       have HF8 := Aside0.mk (Kd.FK_grown (Kd.FK_of_M (Kd.M_row (Kd.R_tight rfl HV7.out))) hg (fun k_ hk he => by have h1 := Kd.R_base HV7.out k_ hk.symm; have := Kd.S_lt HO.out k_ he.symm; omega))
       have HL9 := Aside0.mk (Kd.N_mono HL8.out (ok' := fun k_ => w.heap.size ≤ k_ ∧ some k_ ≠ (v6 : Value).ownBlock) (fun k_ hk => ⟨hk.1.1, fun he => by
        rcases hat with h1 | ⟨b, h1, h2⟩
        ·exact hk.1.2 (he.trans h1)
        ·rw [h1] at he
         injection he with he
         have h3 := HB7.out.size
         have h4 := hk.2
         omega⟩))
       have HNP := Aside0.mk (vec_put HL9.out p (of_eq_true p0) (of_eq_true p1) HF8.out (fun k_ hk => by
        have h1 := Kd.R_base HV7.out k_ hk.symm
        have h2 := HB.out.size
        have h5 := Kd.R_lt HV7.out k_ hk.symm
        refine ⟨⟨by omega, fun he => ?_⟩, by omega⟩
        rcases hat with h6 | ⟨b, h6, h7⟩
        ·have := Kd.S_lt HO.out k_ (h6.symm.trans he.symm); omega
        ·rw [h6] at he
         injection he with he
         omega))
       clear ho hb hg hat
       obtain ⟨c8, hc8, _, hcc8, hfr8⟩ := Kd.N_elem HL8.out [] p (of_eq_true p0) (of_eq_true p1)
       have hx8 : ∃ u, w8.cell? ⟨gl, p.toNat, none⟩ = some u := by
        have h := hcc8 0 _ (List.getElem?_eq_getElem (by rw [hc8]; decide))
        exact ⟨_, by simpa [Kd.slice] using h⟩
       obtain ⟨u8x, hx8⟩ := hx8
       have hf8 : w8.frozen? ⟨gl, p.toNat, none⟩ = false := by simpa [Kd.slice] using hfr8 0
       clear hcc8 hfr8 hc8
       refine hK.out _ _ ((blk_cell BK8b.out 0).trans rfl) (fun hHeld => ?_)
       clear hK K
       refine norm_ (a' := ?_) ?_ ?_
       rotate_left
       ·show Act.put _ (some 51) _ = _
        simp only [Act.put, List.setIfInBounds_toArray, List.set_cons_zero, List.set_cons_succ, i64_w, i32_w]
        rfl
       refine pure_ (i := 8) (N := some 5) (v := ?_) (a' := ?_) #[true, true, true, true, true, true, true, true, true, false, false] rfl rfl (by kernel_rfl) (fun _ _ _ h => h) (Or.inl ⟨by rfl, ?_⟩) ?_ ?_
       rotate_left
       ·intro w'
        go_simp
        with_reducible rfl
       rotate_left
       ·simp only [Act.put, List.setIfInBounds_toArray, List.set_cons_zero, List.set_cons_succ, i64_w, i32_w]
        rfl
       refine pure_ (i := 9) (N := some 53) (v := ?_) (a' := ?_) #[true, true, true, true, true, true, true, true, true, true, false] rfl rfl (by kernel_rfl) (fun _ _ _ h => h) (Or.inl ⟨by rfl, ?_⟩) ?_ ?_
       rotate_left
       ·intro w'
        go_simp
        with_reducible rfl
       rotate_left
       ·simp only [Act.put, List.setIfInBounds_toArray, List.set_cons_zero, List.set_cons_succ, i64_w, i32_w]
        rfl
       refine last_ (i := 10) (N := none) #[true, true, true, true, true, true, true, true, true, true, true] rfl rfl (by kernel_rfl) (by decide) (fun K hK => ?_)
       refine skip_ (w1 := ?_) (by rfl) rfl ?_ ?_
       rotate_left
       ·go_simp
        rfl
       refine hK.out _ _ ?_
       clear hK K
       refine done_ (by kernel_rfl) ?_
       cases gk with
       | zero => exact absurd HK.out (by omega)
       | succ k1 =>
        try go_wp2
        go_roundg k1
        case measure => omega
        case rel =>
         refine ⟨xo ++ [vv], xl.set p.toNat vv, j + 1, ?_, ⟨by have := HK.out; omega⟩, ⟨HX2.out⟩, ⟨?_⟩, ⟨?_⟩, ⟨?_⟩⟩
         ·have := HLn.out
          congr 1
          unfold wrap64
          omega
         ·exact Kd.S_far (p := ⟨gl, p.toNat, none⟩) HO8.out (fun k_ hk he => hk.2 (by rw [he]; rfl)) _
         ·exact HNP.out
         ·exact below_set HB8.out gl0
      ·have hf1 : (f != -1) = true := bne_iff_ne.mpr hf
       have hv := HV0.out
       rw [if_neg hf] at hv
       by_cases hfo : 0 ≤ f ∧ f < xo.length
       ·rw [if_pos hfo] at hv
        have HV1 := Aside0.mk hv
        obtain ⟨go, capo, eo, go0, go1, _⟩ := Kd.S_form HO.out (by omega)
        subst eo
        obtain ⟨ado, Ao, co, e3, hco, hcoc, hCo⟩ := vec_at (Kd.R_reads' (Kd.S_R HO.out)).2.2 f hfo.1 hfo.2
        cases e3
        obtain ⟨rowf, hrf⟩ : ∃ rowf, rowf = xo.getD f.toNat [] := ⟨_, rfl⟩
        rw [← hrf] at hco hCo hcoc
        have HV2 : Aside0 (impl_joined.f k (overL (List.replicate a0.toNat 0) row) rowf = some v) := ⟨by rw [hrf]; exact HV1.out⟩
        have HCO := Aside0.mk hCo
        (try simp only [add_plain] at hco)
        have lco := World.block_lt_of_cell? wr _ hco
        have f0 := eq_true hfo.1
        have f1 := eq_true hfo.2
        clear hv hCo hrf hfo hf HV1
        go_wp2_with (first | ((with_reducible refine gate_dst (N := 20) rfl ?_); refine Kd.R_make (Kd.int .i64) _ 3 rfl (N := 20) rfl 29 _ _ rfl a0 rfl rfl Try.underlying29 (.int .i64 0) 8 info3 rfl (by decide) (by decide) 0 (ok := fun _ => True) (okp := fun _ => True) rfl (fun _ hk => hk) trivial HA4.out HA3.out (Below.refl _ _) (Nat.le_refl _) ?_; intro v3 w3 ho hb hg hnew; have HV := Aside0.mk (Kd.R_lower ho HW.out.size); have HB3 := Aside0.mk (below_then HW.out HW.out.size hb); have BK8 := Aside0.mk (blk_grown (blk_new wr (.cells #[.int .i64 p, .int .i64 f] 57 (0, 0))) hg (Option.some_ne_none _)); clear ho hb hg hnew; have z0 : w3.cell? ⟨wr.heap.size, 0, none⟩ = some (.int .i64 p) := (blk_cell BK8.out 0).trans rfl; have z1 : w3.cell? ⟨wr.heap.size, 1, none⟩ = some (.int .i64 f) := (blk_cell BK8.out 1).trans rfl; have z2 := (HB3.out.cell lcl).trans hcl) | ((with_reducible refine gate_dst (N := 27) rfl ?_); refine Kd.R_copy (enc := Value.int .i64) (h1 := fun _ => rfl) (0 : Int) (w0 := wr) wr.heap.size rfl (.tmp 21) (.tmp 26) 29 29 3 rfl Try.underlying29 HI3.out v3 (List.replicate a0.toNat 0) row Al row.length cl (fun _ => True) rfl rfl HV.out (Kd.C_below HCL.out HB3.out) HB3.out HB3.out.size ?_; intro w4 ho hb hg; have HV4 : Aside0 (Kd.R (Kd.int .i64) 3 w4 wr.heap.size (fun _ => True) v3 (overL (List.replicate a0.toNat 0) row)) := ⟨ho⟩; have HB4 := Aside0.mk hb; have BK4 := Aside0.mk (blk_grown BK8.out hg (Kd.R_ne HV.out BK8.out (by decide))); clear ho hg hb; have y0 : w4.cell? ⟨wr.heap.size, 0, none⟩ = some (.int .i64 p) := (blk_cell BK4.out 0).trans rfl; have y1 : w4.cell? ⟨wr.heap.size, 1, none⟩ = some (.int .i64 f) := (blk_cell BK4.out 1).trans rfl; obtain ⟨Av, cv, ev⟩ := Kd.R_slice HV4.out; subst ev; have y2 := (HB4.out.cell lco).trans hco))
        refine (impl_joined.calls k Av cv _ Ao co rowf v _ (Kd.R_reads' HV4.out).2.2 (Kd.R_reads' HV4.out).2.1 (Kd.C_below HCO.out HB4.out) hcoc HV2.out).mono ?_
        rintro e w5 ⟨v5, rfl, hr5, hb5⟩
        have HV5 := Aside0.mk (Kd.R_lower hr5 HB4.out.size)
        have HB5 := Aside0.mk (below_then HB4.out HB4.out.size hb5)
        have BK5 := Aside0.mk (blk_below BK4.out hb5)
        clear hr5 hb5
        have x0 : w5.cell? ⟨wr.heap.size, 0, none⟩ = some (.int .i64 p) := (blk_cell BK5.out 0).trans rfl
        obtain ⟨g4, c4, e4, gb4, gl4, _⟩ := Kd.R_form HV5.out HVP.out
        subst e4
        obtain ⟨ad4, e4, hx4⟩ := Kd.at_int (Kd.R_reads' HV5.out).2.2 p (of_eq_true p0) (of_eq_true q1)
        cases e4
        (first | simp only [add_plain] at hx4 | skip)
        obtain ⟨hy4, hf4⟩ := Kd.R_celln 0 HV5.out p (of_eq_true p0) (of_eq_true q1)
        have HP := Kd.R_putg HV5.out p (wrap64 (rd v p + 1))
        have GB4 := Aside0.mk gb4
        clear gb4
        go_wp2_with fail
        have HB6 := Aside0.mk (below_set HB5.out GB4.out (j := p.toNat) (v := .int .i64 (wrap64 (rd v p + 1))))
        have BK6 := Aside0.mk (blk_grown BK5.out HP.2 (Kd.R_ne HV5.out BK5.out (by decide)))
        have HV6 := Aside0.mk HP.1
        clear HP
        obtain ⟨vv, hvv⟩ : ∃ vv, vv = v.set p.toNat (wrap64 (rd v p + 1)) := ⟨_, rfl⟩
        rw [← hvv] at HV6 HX2
        have HO6 := Aside0.mk (Kd.S_below (Kd.S_bound HO.out) HB6.out)
        have HL6 := Aside0.mk (Kd.N_below (Kd.N_bound HL.out) HB6.out)
        generalize w5.setCell ⟨g4, p.toNat, none⟩ (.int .i64 (wrap64 (rd v p + 1))) = w6 at HB6 BK6 HV6 HO6 HL6 ⊢
        have HBw := Aside0.mk (Below.trans HB.out ⟨HB6.out.os, HB6.out.tape, HB6.out.output, HB6.out.size, fun i hi => HB6.out.block i (Nat.lt_of_lt_of_le hi HB.out.size)⟩)
        have s0 : w6.cell? ⟨wr.heap.size, 0, none⟩ = some (.int .i64 p) := (blk_cell BK6.out 0).trans rfl
        have HO7 := Aside0.mk (Kd.S_drew HO6.out)
        have HL7 := Aside0.mk (Kd.N_drew HL6.out)
        have HV7 := Aside0.mk (Kd.R_drew HV6.out)
        have BK7 := Aside0.mk (blk_drew BK6.out)
        have HB7 := Aside0.mk (below_drew1 HB6.out)
        have HBw7 := Aside0.mk (below_drew1 HBw.out)
        clear HO6 HL6 HV6 BK6 HB6 HBw s0
        refine start_ (n := 11) (S := fun w' => w'.cell? ⟨wr.heap.size, 0, none⟩ = some (.int .i64 p)) (ds := [10]) #[false, false, false, false, false, false, false, false, false, false, false] (by kernel_rfl) rfl rfl ((blk_cell BK7.out 0).trans rfl) (fun hHeld => ?_)
        generalize w6.drew = w7 at HO7 HL7 HV7 BK7 HB7 HBw7 hHeld ⊢
        refine pure_ (i := 0) (N := some 45) (v := ?_) (a' := ?_) #[true, false, false, false, false, false, false, false, false, false, false] rfl rfl (by kernel_rfl) (fun _ _ _ h => h) (Or.inl ⟨by rfl, ?_⟩) ?_ ?_
        rotate_left
        ·intro w'
         go_simp
         with_reducible rfl
        rotate_left
        ·simp only [Act.put, List.setIfInBounds_toArray, List.set_cons_zero, List.set_cons_succ, i64_w, i32_w]
         rfl
        refine pure_ (i := 1) (N := some 46) (v := ?_) (a' := ?_) #[true, true, false, false, false, false, false, false, false, false, false] rfl rfl (by kernel_rfl) (fun _ _ _ h => h) (Or.inl ⟨by rfl, ?_⟩) ?_ ?_
        rotate_left
        ·intro w'
         go_simp
         with_reducible rfl
        rotate_left
        ·simp only [Act.put, List.setIfInBounds_toArray, List.set_cons_zero, List.set_cons_succ, i64_w, i32_w]
         rfl
        refine pure_ (i := 3) (N := some 48) (v := ?_) (a' := ?_) #[true, true, false, true, false, false, false, false, false, false, false] rfl rfl (by kernel_rfl) (fun _ _ _ h => h) (Or.inl ⟨by rfl, ?_⟩) ?_ ?_
        rotate_left
        ·intro w'
         go_simp
         with_reducible rfl
        rotate_left
        ·simp only [Act.put, List.setIfInBounds_toArray, List.set_cons_zero, List.set_cons_succ, i64_w, i32_w]
         rfl
        refine pure_ (i := 4) (N := some 49) (v := ?_) (a' := ?_) #[true, true, false, true, true, false, false, false, false, false, false] rfl rfl (by kernel_rfl) (fun _ _ _ h => h) (Or.inl ⟨by rfl, ?_⟩) ?_ ?_
        rotate_left
        ·intro w'
         go_simp
         with_reducible rfl
        rotate_left
        ·simp only [Act.put, List.setIfInBounds_toArray, List.set_cons_zero, List.set_cons_succ, i64_w, i32_w]
         rfl
        refine pure_ (i := 7) (N := some 52) (v := ?_) (a' := ?_) #[true, true, false, true, true, false, false, true, false, false, false] rfl rfl (by kernel_rfl) (fun _ _ _ h => h) (Or.inl ⟨by rfl, ?_⟩) ?_ ?_
        rotate_left
        ·intro w'
         go_simp
         with_reducible rfl
        rotate_left
        ·simp only [Act.put, List.setIfInBounds_toArray, List.set_cons_zero, List.set_cons_succ, i64_w, i32_w]
         rfl
        refine take_ (i := 2) (N := some 47) (v := ?_) (a' := ?_) #[true, true, true, true, true, false, false, true, false, false, false] rfl rfl (by kernel_rfl) (fun _ _ _ h => h) (Or.inl ⟨by rfl, ?_⟩) hHeld ?_ ?_
        rotate_left
        ·intro w' s0
         go_simp
         with_reducible rfl
        rotate_left
        ·simp only [Act.put, List.setIfInBounds_toArray, List.set_cons_zero, List.set_cons_succ, i64_w, i32_w]
         rfl
        refine one_ (i := 5) (N := some 50) #[true, true, true, true, true, true, false, true, false, false, false] rfl rfl (by kernel_rfl) (by decide) (fun K hK => ?_)
        refine value_ (w1 := ?_) (v := ?_) (by rfl) rfl ?_ ?_
        rotate_left 2
        ·go_simp
         constructor
         ·rfl
         ·rfl
        refine hK.out _ _ ((blk_cell (blk_alloc BK7.out _) 0).trans rfl) (fun hHeld => ?_)
        clear hK K
        refine norm_ (a' := ?_) ?_ ?_
        rotate_left
        ·show Act.put _ (some 50) _ = _
         simp only [Act.put, List.setIfInBounds_toArray, List.set_cons_zero, List.set_cons_succ, i64_w, i32_w]
         rfl
        refine one_ (i := 6) (N := some 51) #[true, true, true, true, true, true, true, true, false, false, false] rfl rfl (by kernel_rfl) (by decide) (fun K hK => ?_)
        refine Kd.S_append_step (Kd.slice 3 (Kd.int .i64)) (w0 := w) w.heap.size (by rfl) (.tmp 48) (.tmp 50) 39 29 (.slice none 0 0) 24 rfl Try.underlying39 info29 rfl (by decide) (by decide) (.slice (some ⟨go, 0, none⟩) xo.length capo) xo vv [.slice (some ⟨g4, 0, none⟩) v.length c4] (fun k_ => w.heap.size ≤ k_ ∧ some k_ ≠ (.slice (some ⟨gl, 0, none⟩) xl.length capl : Value).ownBlock) (fun k_ => some k_ = (.slice (some ⟨g4, 0, none⟩) v.length c4 : Value).ownBlock) rfl rfl ?aP ?aK ?aF ?aO HBw7.out HBw7.out.size ?aL ?_
        case aP => exact Kd.M_row (Kd.R_lower (Kd.R_tight rfl HV7.out) HB.out.size)
        case aK =>
         intro k_ hk
         have h1 := Kd.R_base HV7.out k_ hk.symm
         have h2 := HB.out.size
         exact ⟨⟨by omega, fun he => by simp [Value.ownBlock] at he; omega⟩, fun he => by have := Kd.S_lt HO.out k_ he.symm; omega⟩
        case aF =>
         intro k_ hk
         have h2 := HB.out.size
         have h3 := HB7.out.size
         exact ⟨by omega, fun he => by simp [Value.ownBlock] at he; omega⟩
        case aO => exact Kd.S_mono HO7.out (fun k_ hk => ⟨hk.1, fun e_ => by have h1 := Kd.R_base HV7.out k_ e_.symm; have h2 := hk.2.2.1; omega⟩)
        case aL => have := HQ.out.2; omega
        intro v6 w8 ho hb hg hat
        have HO8 := Aside0.mk ho
        have HB8 := Aside0.mk hb
        have HL8 := Aside0.mk (Kd.N_grown HL7.out hg (fun k_ hk => hk.1.2))
        have BK8b := Aside0.mk (blk_grown BK7.out hg (fun he => by have := Kd.S_lt HO.out _ he.symm; omega))
        have HAT := Aside0.mk hat
        have HSZ := Aside0.mk HB7.out.size
        have HF8 := Aside0.mk (Kd.FK_grown (Kd.FK_of_M (Kd.M_row (Kd.R_tight rfl HV7.out))) hg (fun k_ hk he => by have h1 := Kd.R_base HV7.out k_ hk.symm; have := Kd.S_lt HO.out k_ he.symm; omega))
        have HL9 := Aside0.mk (Kd.N_mono HL8.out (ok' := fun k_ => w.heap.size ≤ k_ ∧ some k_ ≠ (v6 : Value).ownBlock) (fun k_ hk => ⟨hk.1.1, fun he => by
         rcases hat with h1 | ⟨b, h1, h2⟩
         ·exact hk.1.2 (he.trans h1)
         ·rw [h1] at he
          injection he with he
          have h3 := HB7.out.size
          have h4 := hk.2
          omega⟩))
        have HNP := Aside0.mk (vec_put HL9.out p (of_eq_true p0) (of_eq_true p1) HF8.out (fun k_ hk => by
         have h1 := Kd.R_base HV7.out k_ hk.symm
         have h2 := HB.out.size
         have h5 := Kd.R_lt HV7.out k_ hk.symm
         refine ⟨⟨by omega, fun he => ?_⟩, by omega⟩
         rcases hat with h6 | ⟨b, h6, h7⟩
         ·have := Kd.S_lt HO.out k_ (h6.symm.trans he.symm); omega
         ·rw [h6] at he
          injection he with he
          omega))
        clear ho hb hg hat
        obtain ⟨c8, hc8, _, hcc8, hfr8⟩ := Kd.N_elem HL8.out [] p (of_eq_true p0) (of_eq_true p1)
        have hx8 : ∃ u, w8.cell? ⟨gl, p.toNat, none⟩ = some u := by
         have h := hcc8 0 _ (List.getElem?_eq_getElem (by rw [hc8]; decide))
         exact ⟨_, by simpa [Kd.slice] using h⟩
        obtain ⟨u8x, hx8⟩ := hx8
        have hf8 : w8.frozen? ⟨gl, p.toNat, none⟩ = false := by simpa [Kd.slice] using hfr8 0
        clear hcc8 hfr8 hc8
        refine hK.out _ _ ((blk_cell BK8b.out 0).trans rfl) (fun hHeld => ?_)
        clear hK K
        refine norm_ (a' := ?_) ?_ ?_
        rotate_left
        ·show Act.put _ (some 51) _ = _
         simp only [Act.put, List.setIfInBounds_toArray, List.set_cons_zero, List.set_cons_succ, i64_w, i32_w]
         rfl
        refine pure_ (i := 8) (N := some 5) (v := ?_) (a' := ?_) #[true, true, true, true, true, true, true, true, true, false, false] rfl rfl (by kernel_rfl) (fun _ _ _ h => h) (Or.inl ⟨by rfl, ?_⟩) ?_ ?_
        rotate_left
        ·intro w'
         go_simp
         with_reducible rfl
        rotate_left
        ·simp only [Act.put, List.setIfInBounds_toArray, List.set_cons_zero, List.set_cons_succ, i64_w, i32_w]
         rfl
        refine pure_ (i := 9) (N := some 53) (v := ?_) (a' := ?_) #[true, true, true, true, true, true, true, true, true, true, false] rfl rfl (by kernel_rfl) (fun _ _ _ h => h) (Or.inl ⟨by rfl, ?_⟩) ?_ ?_
        rotate_left
        ·intro w'
         go_simp
         with_reducible rfl
        rotate_left
        ·simp only [Act.put, List.setIfInBounds_toArray, List.set_cons_zero, List.set_cons_succ, i64_w, i32_w]
         rfl
        refine last_ (i := 10) (N := none) #[true, true, true, true, true, true, true, true, true, true, true] rfl rfl (by kernel_rfl) (by decide) (fun K hK => ?_)
        refine skip_ (w1 := ?_) (by rfl) rfl ?_ ?_
        rotate_left
        ·go_simp
         rfl
        refine hK.out _ _ ?_
        clear hK K
        refine done_ (by kernel_rfl) ?_
        cases gk with
        | zero => exact absurd HK.out (by omega)
        | succ k1 =>
         try go_wp2
         go_roundg k1
         case measure => omega
         case rel =>
          refine ⟨xo ++ [vv], xl.set p.toNat vv, j + 1, ?_, ⟨by have := HK.out; omega⟩, ⟨HX2.out⟩, ⟨?_⟩, ⟨?_⟩, ⟨?_⟩⟩
          ·have := HLn.out
           congr 1
           unfold wrap64
           omega
          ·exact Kd.S_far (p := ⟨gl, p.toNat, none⟩) HO8.out (fun k_ hk he => hk.2 (by rw [he]; rfl)) _
          ·exact HNP.out
          ·exact below_set HB8.out gl0
       ·rw [if_neg hfo] at hv; cases hv
     ·rw [if_neg hq] at hx; cases hx
    ·rw [if_neg hp] at hx; cases hx
   ·have hge : ¬ ((j : Int) < l1.length) := by omega
    have hx := HX.out
    rw [List.drop_of_length_le (by omega)] at hx
    simp only [vecGo, Option.some.injEq] at hx
    subst hx
    go_wp2
    go_ret
    exact ⟨_, rfl, Kd.S_mono HO.out (fun _ _ => trivial), HB.out⟩
 ·rw [if_neg hc] at h; cases h

/-! ### impl_VectorsOf: function 30 -/
def impl_VectorsOf.f (k : Nat) (a0 : Int) (l1 : List (S57)) : Option ((List (List Int)) × Bool) := (impl_GoodActs.f k a0 l1).bind fun t115 => (if t115 = true then ((impl_vectors.f k a0 l1).bind fun t116 => (some (t116, true))) else (some (([] : List (List Int)), false)))
theorem impl_VectorsOf.mono : ∀ a0 a1 k, LeO (impl_VectorsOf.f k a0 a1) (impl_VectorsOf.f (k + 1) a0 a1) := by
 intro a0 a1 k
 unfold impl_VectorsOf.f
 repeat' first
   | (with_reducible exact impl_GoodActs.mono _ _ _)
   | (with_reducible exact impl_vectors.mono _ _ _)
   | (with_reducible exact LeO.refl _)
   | (with_reducible exact LeO.none _)
   | (with_reducible refine LeO.ite ?_ ?_)
   | (with_reducible refine LeO.bind ?_ (fun _ => ?_))
   | exact impl_GoodActs.mono _ _ _
   | exact impl_vectors.mono _ _ _
   | exact LeO.none _
   | refine LeO.ite ?_ ?_
   | refine LeO.bind ?_ (fun _ => ?_)
set_option maxHeartbeats 8000000 in
set_option maxRecDepth 100000 in
theorem impl_VectorsOf.calls (k : Nat) (a0 : Int) (A1 : Option Addr) (c1 : Nat) (l1 : List (S57)) (r1 : List (List Int)) (r2 : Bool) (w : World) (hr1 : Kd.C k57 w A1 l1.length l1) (hc1 : l1.length ≤ c1) (h : impl_VectorsOf.f k a0 l1 = some (r1, r2)) :
  Calls Try.prog 30 #[.int .i64 a0, .slice A1 l1.length c1] w fun e w' => ∃ v0_ : Value, e = .returned (.tuple #[v0_, .bool r2]) ∧ Kd.S (Kd.slice 3 (Kd.int .i64)) 29 w' w.heap.size (fun _ => True) v0_ r1 ∧ Below w.heap.size w w' := by
 have HR1 := Aside0.mk hr1
 have HC1 := Aside0.mk hc1
 clear hr1 hc1
 have HB := Aside0.mk (Below.refl w.heap.size w)
 have H : ((impl_GoodActs.f k a0 l1).bind fun t115 => (if t115 = true then ((impl_vectors.f k a0 l1).bind fun t116 => (some (t116, true))) else (some (([] : List (List Int)), false)))) = some (r1, r2) := h
 clear h
 replace H := Option.bind_eq_some_iff.mp H
 obtain ⟨t115, A30, H⟩ := H
 replace H : (if t115 = true then ((impl_vectors.f k a0 l1).bind fun t116 => (some (t116, true))) else (some (([] : List (List Int)), false))) = some (r1, r2) := H
 have A3 := Aside0.mk A30
 clear A30
 by_cases c4 : t115 = true
 ·subst c4
  have H1 : ((impl_vectors.f k a0 l1).bind fun t116 => (some (t116, true))) = some (r1, r2) := by rw [if_pos rfl] at H; exact H
  clear H
  have H := H1
  clear H1
  replace H := Option.bind_eq_some_iff.mp H
  obtain ⟨t116, A50, H⟩ := H
  replace H : (some (t116, true)) = some (r1, r2) := H
  have A5 := Aside0.mk A50
  clear A50
  simp only [Option.some.injEq, Prod.mk.injEq] at H
  obtain ⟨rfl, rfl⟩ := H
  go_enter Try.func30, Try.ntmps30
  go_wp2_with (first | ((with_reducible refine gate_callee (f := 16) rfl ?_); refine goesL_ (some 8) rfl rfl Try.func16 (by kernel_rfl) rfl #[.int .i64 a0, .slice A1 l1.length c1] rfl (by (try simp only [List.map_toArray, List.map_cons, List.map_nil]); first | done | rfl | (simp only [List.length_drop, List.length_take]; rfl)) ?_; (with_reducible refine (impl_GoodActs.calls k a0 _ _ l1 true _ ?side1 ?side2 A3.out).mono ?_); (case side1 => repeat (first | exact HR1.out | (with_reducible refine Kd.C_alloc ?_ _) | (with_reducible refine Kd.C_drewN ?_ _) | (with_reducible refine Kd.C_drew ?_))); (case side2 => exact HC1.out); rintro e w6 ⟨rfl, hb⟩; refine ⟨_, rfl, ?_⟩; have n0_ := Aside0.mk (below_step (by repeat (first | (with_reducible first | exact HB.out | apply below_alloc | apply pw_below_drewN | apply below_drew1) | exact HB.out)) hb); clear HB; have HB := n0_; clear n0_; (try clear hb); (try clear hb2); (try clear hk); (try clear hi)) | ((with_reducible refine gate_callee (f := 53) rfl ?_); refine goesL_ (some 12) rfl rfl Try.func53 (by kernel_rfl) rfl #[.int .i64 a0, .slice A1 l1.length c1] rfl (by (try simp only [List.map_toArray, List.map_cons, List.map_nil]); first | done | rfl | (simp only [List.length_drop, List.length_take]; rfl)) ?_; (with_reducible refine (impl_vectors.calls k a0 _ _ l1 t116 _ ?side1 ?side2 A5.out).mono ?_); (case side1 => repeat (first | exact (Kd.C_below HR1.out HB.out) | (with_reducible refine Kd.C_alloc ?_ _) | (with_reducible refine Kd.C_drewN ?_ _) | (with_reducible refine Kd.C_drew ?_))); (case side2 => exact HC1.out); rintro e w7 ⟨v117, rfl, ho0, hb⟩; refine ⟨_, rfl, ?_⟩; have n0_ := Aside0.mk (Kd.S_lower ho0 (below_size (by repeat (first | (with_reducible first | exact HB.out | apply below_alloc | apply pw_below_drewN | apply below_drew1) | exact HB.out)))); have n1_ := Aside0.mk (below_step (by repeat (first | (with_reducible first | exact HB.out | apply below_alloc | apply pw_below_drewN | apply below_drew1) | exact HB.out)) hb); clear HB; have HO118 := n0_; have HB := n1_; clear n0_ n1_; (try clear hb); (try clear hb2); (try clear hk); (try clear hi); (try clear ho0)))
  go_ret2
  exact ⟨_, by first | rfl | (simp [errW_none, errW_some] <;> rfl) | (simp [*, errW_none, errW_some] <;> rfl), by (with_reducible repeat (first | apply Kd.S_alloc | apply Kd.S_drewN | apply Kd.S_drew)); exact HO118.out, by repeat (first | (with_reducible first | exact HB.out | apply below_alloc | apply pw_below_drewN | apply below_drew1) | exact HB.out)⟩
 ·replace c4 := Bool.eq_false_iff.mpr c4
  subst c4
  have H1 : (some (([] : List (List Int)), false)) = some (r1, r2) := by rw [if_neg (show ¬ (false = true) by decide)] at H; exact H
  clear H
  have H := H1
  clear H1
  simp only [Option.some.injEq, Prod.mk.injEq] at H
  obtain ⟨rfl, rfl⟩ := H
  go_enter Try.func30, Try.ntmps30
  go_wp2_with (first | ((with_reducible refine gate_callee (f := 16) rfl ?_); refine goesL_ (some 8) rfl rfl Try.func16 (by kernel_rfl) rfl #[.int .i64 a0, .slice A1 l1.length c1] rfl (by (try simp only [List.map_toArray, List.map_cons, List.map_nil]); first | done | rfl | (simp only [List.length_drop, List.length_take]; rfl)) ?_; (with_reducible refine (impl_GoodActs.calls k a0 _ _ l1 false _ ?side1 ?side2 A3.out).mono ?_); (case side1 => repeat (first | exact HR1.out | (with_reducible refine Kd.C_alloc ?_ _) | (with_reducible refine Kd.C_drewN ?_ _) | (with_reducible refine Kd.C_drew ?_))); (case side2 => exact HC1.out); rintro e w8 ⟨rfl, hb⟩; refine ⟨_, rfl, ?_⟩; have n0_ := Aside0.mk (below_step (by repeat (first | (with_reducible first | exact HB.out | apply below_alloc | apply pw_below_drewN | apply below_drew1) | exact HB.out)) hb); clear HB; have HB := n0_; clear n0_; (try clear hb); (try clear hb2); (try clear hk); (try clear hi)))
  go_ret2
  exact ⟨_, by first | rfl | (simp [errW_none, errW_some] <;> rfl) | (simp [*, errW_none, errW_some] <;> rfl), by first | exact Kd.S_nil _ _ _ _ _ | exact Kd.N_nil _ _ _ _ _ | exact Kd.V_nil _ _ _ _ _ | exact Kd.Q_nil _ _ _ _ _ | exact Kd.R_nil _ _ _ _ _, by repeat (first | (with_reducible first | exact HB.out | apply below_alloc | apply pw_below_drewN | apply below_drew1) | exact HB.out)⟩

/-! ### spec_l1In: function 44 -/
def spec_l1In.f (a0 : Int) (a1 : Int) (a2 : Int) : Option (Bool) := if a0 ≥ a1 then (some (decide (a0 ≤ a2))) else (some false)
set_option maxHeartbeats 8000000 in
set_option maxRecDepth 100000 in
theorem spec_l1In.calls (a0 : Int) (a1 : Int) (a2 : Int) (r : Bool) (w : World) (h : spec_l1In.f a0 a1 a2 = some r) :
  Calls Try.prog 44 #[.int .i64 a0, .int .i64 a1, .int .i64 a2] w fun e w' => e = .returned (.bool r) ∧ Drawn0 w w' := by
 have H : (if a0 ≥ a1 then (some (decide (a0 ≤ a2))) else (some false)) = some r := h
 clear h
 by_cases c4 : a0 ≥ a1
 ·rw [if_pos c4] at H
  have c4b0 : decide (a1 ≤ a0) = true := decide_eq_true c4
  clear c4
  obtain rfl := Option.some.inj H
  go_enter Try.func44, Try.ntmps44
  go_wp2
  go_ret
  exact ⟨by first | rfl | (simp; done) | (simp [*]; done), by repeat (first | exact Drawn0.refl _ | apply Drawn0.step)⟩
 ·rw [if_neg c4] at H
  have c4b0 : decide (a1 ≤ a0) = false := decide_eq_false c4
  clear c4
  obtain rfl := Option.some.inj H
  go_enter Try.func44, Try.ntmps44
  go_wp2
  go_ret
  exact ⟨by first | rfl | (simp; done) | (simp [*]; done), by repeat (first | exact Drawn0.refl _ | apply Drawn0.step)⟩

end Go.Proofs.Ytmhhjmadpnkelaa.PFnCuts
