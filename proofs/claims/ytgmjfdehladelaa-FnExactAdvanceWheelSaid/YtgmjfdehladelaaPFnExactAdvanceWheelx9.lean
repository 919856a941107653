-- written by xprint.py (a program of this session's, over the kit's print): printed functions, and some by hand
import Derived.Test.YtgmjfdehladelaaPFnExactAdvanceWheelx0
import Derived.Test.YtgmjfdehladelaaPFnExactAdvanceWheelx6
import Derived.Test.YtgmjfdehladelaaPFnExactAdvanceWheelx7
import Derived.Test.YtgmjfdehladelaaPFnExactAdvanceWheelx8
namespace Go.Proofs.Ytgmjfdehladelaa.PFnExactAdvanceWheel
open Go.RowKit Go.Proofs.YtgmjfdehladelaaW.PrintWords Go.Proofs.YtgmjfdehladelaaW.PrintLast Go.Proofs.YtgmjfdehladelaaW.PrintMore
attribute [local go_sem] max2_int min2_int max_two min_two max_three min_three max_four min_four   -- for this text's walks alone
set_option linter.unusedVariables false
set_option linter.unusedSimpArgs false

/-! ### impl_Wheel_tick: function 69, by hand; a text alone -/
def imPut (d : List Int) (x : Int) : Option (List Int) := if d.length < 4000000 then some (d ++ [x]) else none
def imSlot (k : Nat) (now x : Int) : Option Int := (impl_slotFor.f k now x).bind fun a => some a.1
def imRem (k : Nat) (now lev : Int) : Option Int := (impl_units.f k lev).bind fun p => if p = 0 then none else some (Int.tmod now p)
def impl_tick.f (k : Nat) (n0 : Int) (L : List (List S45)) : Option (Int × List (List S45) × List Int × Int) := if 0 < L.length then ((tkRest imPut (imSlot k (wrap64 (n0 + 1))) false (wrap64 (n0 + 1)) (imRem k (wrap64 (n0 + 1))) (impl_slotAt.f k (wrap64 (n0 + 1))) (impl_slotAt.f k (wrap64 (n0 + 1)) 0) 2 L [] 0).bind fun a => if a.2.1.length < 4000000 then some (wrap64 (n0 + 1), a.1, a.2.1.mergeSort (fun x y => decide (x ≤ y)), a.2.2) else none) else none
theorem impl_tick.mono : ∀ a0 a1 k, LeO (impl_tick.f k a0 a1) (impl_tick.f (k + 1) a0 a1) := fun a0 a1 k => LeO.ite (LeO.bind (tkRest_le (fun _ _ => LeO.refl _) (fun x => LeO.bind (impl_slotFor.mono _ x k) (fun _ => LeO.refl _)) (fun x => LeO.bind (impl_units.mono x k) (fun _ => LeO.refl _)) (fun x => impl_slotAt.mono _ x k) (impl_slotAt.mono _ 0 k) false _ 2 a1 [] 0) (fun _ => LeO.refl _)) (LeO.refl _)
set_option maxHeartbeats 16000000 in
set_option maxRecDepth 100000 in
theorem impl_tick.own (k : Nat) (n0 : Int) (A : Option Addr) (c : Nat) (L : List (List S45)) (r1 : Int) (r2 : List (List S45)) (r3 : List Int) (r4 : Int) (P : Nat → Prop) (w0 w : World) (gb : Nat) (hgb : w0.heap.size ≤ gb) (hX : w.heap[gb]? = some (.cells #[.int .i64 n0, .slice A L.length c] 27 (0, 0))) (hB : Below w0.heap.size w0 w) (hP : ∀ k, P k → w0.heap.size ≤ k) (hS : Kd.S (Kd.slice 45 k45) 48 w w0.heap.size P (.slice A L.length c) L) (h : impl_tick.f k n0 L = some (r1, r2, r3, r4)) :
  Calls Try.prog 69 #[.pointer (some ⟨gb, 0, none⟩)] w fun e w' => ∃ vd : Value, e = .returned (.tuple #[vd, .int .i64 r4]) ∧ w'.heap[gb]? = some (.cells #[.int .i64 r1, .slice A L.length c] 27 (0, 0)) ∧ Kd.S (Kd.slice 45 k45) 48 w' w0.heap.size (fun k => P k ∨ w.heap.size ≤ k) (.slice A L.length c) r2 ∧ Kd.R (Kd.int .i64) 3 w' w.heap.size (fun _ => True) vd r3 ∧ Below w0.heap.size w0 w' ∧ Kept w w' (fun k => P k ∨ k = gb) := by
 have hu27 := Try.underlying27
 have hu45 := Try.underlying45
 unfold impl_tick.f at h
 by_cases hl : 0 < L.length
 case neg => rw [if_neg hl] at h; cases h
 rw [if_pos hl] at h
 replace h := Option.bind_eq_some_iff.1 h
 obtain ⟨⟨a1, a2, a3⟩, hF, h⟩ := h
 by_cases hdl : a2.length < 4000000
 case neg => simp only [if_neg hdl] at h; cases h
 simp only [if_pos hdl] at h
 simp only [Option.some.injEq, Prod.mk.injEq] at h
 obtain ⟨hr1, rfl, rfl, rfl⟩ := h
 obtain ⟨g, cap, hv, hbg, hgl, _⟩ := Kd.S_form hS hl
 injection hv with ha he_ hc
 subst ha
 subst hc
 clear he_ hl
 obtain ⟨now, hnow⟩ : ∃ now, now = wrap64 (n0 + 1) := ⟨_, rfl⟩
 rw [← hnow] at hF hr1
 subst hr1
 obtain ⟨n, hn⟩ : ∃ n, n = L.length := ⟨_, rfl⟩
 rw [← hn] at hX ⊢
 rw [← hn] at hS
 obtain ⟨w1, hw1⟩ : ∃ w1, w1 = w.setCell ⟨gb, 0, none⟩ (.int .i64 now) := ⟨_, rfl⟩
 have HSZ := Aside0.mk (show w1.heap.size = w.heap.size by rw [hw1]; simp)
 have HK1 := Aside0.mk (show Kept w w1 (fun k => P k ∨ k = gb) by rw [hw1]; exact (Kept.refl w _).setCell (p := ⟨gb, 0, none⟩) (.inl (.inr rfl)) _)
 have HB1 := Aside0.mk (show Below w0.heap.size w0 w1 by rw [hw1]; exact hB.setCell (p := ⟨gb, 0, none⟩) hgb _)
 have HX1 := Aside0.mk (show w1.heap[gb]? = some (.cells #[.int .i64 now, .slice (some ⟨g, 0, none⟩) n c] 27 (0, 0)) by rw [hw1]; exact blk_put (cs := #[.int .i64 n0, .slice (some ⟨g, 0, none⟩) n c]) hX 0 _ rfl)
 have HS1 := Aside0.mk (show Kd.S (Kd.slice 45 k45) 48 w1 w0.heap.size P (.slice (some ⟨g, 0, none⟩) n c) L by rw [hw1]; exact Kd.S_mono (Kd.S_far (p := ⟨gb, 0, none⟩) (Kd.S_types hS hX (by decide)) (fun k hk => hk.2) _) (fun k hk => hk.1))
 have hz0 : w.cell? ⟨gb, 0, none⟩ = some (.int .i64 n0) := (blk_cell hX 0).trans rfl
 have hz1 := blk_frozen hX 0
 have HN := Aside0.mk hn
 have HNOW := Aside0.mk hnow
 have HF := Aside0.mk hF
 have HP := Aside0.mk hP
 have HW := Aside0.mk (show w0.heap.size ≤ w1.heap.size by rw [HSZ.out]; exact hB.size)
 have HW1 := Aside0.mk hw1.symm
 have HDL := Aside0.mk hdl
 clear hn hF hP hB hS hbg hgl hnow hX hw1 hdl
 go_enter Try.func69, Try.ntmps69
 go_wp2_with ((with_reducible refine gate_dst (N := 22) rfl ?_); rw [← HNOW.out, HW1.out]; refine Kd.R_lit (Kd.int .i64) (w0 := w1) w1.heap.size 3 ?hg (N := 22) ?hd (xs := ([] : List Int)) (inner := []) (ok := fun _ => True) (okp := fun _ => True) ?hr (Reps.none _ _) (fun _ hk => hk) trivial (Below.refl _ _) (Nat.le_refl _) (by simp) ?_; (case hd => rfl); (case hg => rfl); (case hr => first | (go_simp; done) | (go_simp; rfl)); intro v22 w22 ho22 hb22 hg22 hn22; have HO22 := Aside0.mk ho22; have HB22 := Aside0.mk hb22; clear ho22 hb22 hg22 hn22 hz0 hz1)
 obtain ⟨bs, hbs⟩ : ∃ bs : List (Nat × Array Value), bs = [(gb, #[.int .i64 now, .slice (some ⟨g, 0, none⟩) n c])] := ⟨_, rfl⟩
 have HX0 : Aside0 ((gb, #[.int .i64 now, .slice (some ⟨g, 0, none⟩) n c]) ∈ bs) := ⟨by rw [hbs]; simp⟩
 have HTK : Aside0 (TK P w0 w1 g n c bs (fun _ => False) (.slice none 0 0) [] w22 L v22 []) := ⟨⟨Kd.S_mono (Kd.S_below HS1.out HB22.out) (fun k hk => ⟨.inl hk, fun h => h⟩), Kd.R_nil _ _ _ _ _, HO22.out, below_then HB1.out HB1.out.size HB22.out, Kept.of_below HB22.out _, fun p hp => by
  rw [hbs] at hp
  simp only [List.mem_cons, List.not_mem_nil, or_false] at hp
  subst hp
  exact blk_below HX1.out HB22.out, fun _ hk => hk.elim⟩⟩
 clear hbs HS1 HX1 HB1 HO22 HB22 HW1
 go_loopg [4, 5, 6] 3 (fun kq v5 v6 v7 w' => ∃ (m : Nat) (lev cnt : Int) (vd : Value) (d : List Int) (L1 : List (List S45)), v5 = vd ∧ v6 = .int .i64 cnt ∧ v7 = .int .i64 lev ∧ Aside0 (lev = (m : Int) ∧ m < kq ∧ m ≤ 2) ∧ Aside0 (TK P w0 w1 g n c bs (fun _ => False) (.slice none 0 0) [] w' L1 vd d) ∧ Aside0 (tkRest imPut (imSlot k now) false now (imRem k now) (impl_slotAt.f k now) (impl_slotAt.f k now 0) m L1 d cnt = some (a1, a2, a3)))
 case atStart => exact ⟨2, 2, 0, _, [], L, rfl, rfl, rfl, ⟨rfl, by omega, by omega⟩, HTK, HF⟩
 case round =>
  clear HTK HF
  obtain ⟨m, lev, cnt, vd, d, L1, rfl, rfl, rfl, HM, HTK, HF⟩ := hrel
  cases gk with
  | zero => exact absurd HM.out.2.1 (by omega)
  | succ k1 =>
  cases m with
  | zero =>
   have hlev : lev = 0 := HM.out.1
   subst hlev
   have hF := HF.out
   simp only [tkRest] at hF
   replace hF := Option.bind_eq_some_iff.1 hF
   obtain ⟨s, hs, hF⟩ := hF
   have HSE := Aside0.mk hs
   by_cases hsb : 0 ≤ s ∧ s < (L1.length : Int) ∧ (L1.getD s.toNat []).length < 4000000
   case neg => rw [if_neg hsb] at hF; cases hF
   rw [if_pos hsb] at hF
   replace hF := Option.bind_eq_some_iff.1 hF
   obtain ⟨⟨e1, e2⟩, hDue, hF⟩ := hF
   simp only [Option.some.injEq, Prod.mk.injEq] at hF
   obtain ⟨rfl, rfl, rfl⟩ := hF
   have HSB := Aside0.mk hsb
   have HNL := Aside0.mk HTK.out.len
   obtain ⟨oki, A2, c2, hR, hx, -⟩ := HTK.out.row_at HW.out HP.out s.toNat (by rw [HNL.out]; have := HSB.out; omega)
   obtain ⟨row, hrow⟩ : ∃ row, row = L1.getD s.toNat [] := ⟨_, rfl⟩
   rw [← hrow] at hR hx hDue HSB
   have HROW := Aside0.mk hrow
   have HXR := Aside0.mk hx
   have HIN := Aside0.mk hDue
   have hs0 : decide (0 ≤ s) = true := decide_eq_true HSB.out.1
   have hs1 : (s < (n : Int)) = True := eq_true (by rw [HNL.out]; exact HSB.out.2.1)
   have hs2 : decide (s < (n : Int)) = true := decide_eq_true (by rw [HNL.out]; exact HSB.out.2.1)
   have hs3 : (0 ≤ s) = True := eq_true HSB.out.1
   clear hrow hR hDue hsb HF hs hx
   go_wp2
   refine start_ (n := 13) (S := fun w' => w'.cell? ⟨gb, 0, none⟩ = some (.int .i64 now) ∧ w'.cell? ⟨gb, 1, none⟩ = some (.slice (some ⟨g, 0, none⟩) n c) ∧ w'.cell? ⟨g, s.toNat, none⟩ = some (.slice A2 row.length c2)) (ds := []) #[false, false, false, false, false, false, false, false, false, false, false, false, false] (by kernel_rfl) rfl rfl ⟨((blk_cell (HTK.out.box HX0.out) 0).trans rfl), ((blk_cell (HTK.out.box HX0.out) 1).trans rfl), HXR.out⟩ (fun hHeld => ?_)
   have nHTK := Aside0.mk (HTK.out.below (below_drew1 (Below.refl _ _)))
   have nHXR := Aside0.mk (pw_cell_below (below_drew1 (Below.refl _ _)) HXR.out)
   clear HTK
   clear HXR
   generalize World.drew wr = wa at nHTK nHXR hHeld ⊢
   have HTK := nHTK
   clear nHTK
   have HXR := nHXR
   clear nHXR
   refine pure_ (i := 0) (N := some 101) (v := ?_) (a' := ?_) #[true, false, false, false, false, false, false, false, false, false, false, false, false] rfl rfl (by kernel_rfl) (fun _ _ _ h => h) (Or.inl ⟨by rfl, ?_⟩) ?_ ?_
   rotate_left
   ·intro w'
    go_simp
    with_reducible rfl
   rotate_left
   ·simp only [Act.put, List.setIfInBounds_toArray, List.set_cons_zero, List.set_cons_succ, i64_w, i32_w]
    rfl
   refine pure_ (i := 1) (N := some 102) (v := ?_) (a' := ?_) #[true, true, false, false, false, false, false, false, false, false, false, false, false] rfl rfl (by kernel_rfl) (fun _ _ _ h => h) (Or.inl ⟨by rfl, ?_⟩) ?_ ?_
   rotate_left
   ·intro w'
    go_simp
    with_reducible rfl
   rotate_left
   ·simp only [Act.put, List.setIfInBounds_toArray, List.set_cons_zero, List.set_cons_succ, i64_w, i32_w]
    rfl
   refine pure_ (i := 2) (N := some 103) (v := ?_) (a' := ?_) #[true, true, true, false, false, false, false, false, false, false, false, false, false] rfl rfl (by kernel_rfl) (fun _ _ _ h => h) (Or.inl ⟨by rfl, ?_⟩) ?_ ?_
   rotate_left
   ·intro w'
    go_simp
    with_reducible rfl
   rotate_left
   ·simp only [Act.put, List.setIfInBounds_toArray, List.set_cons_zero, List.set_cons_succ, i64_w, i32_w]
    rfl
   refine take_ (i := 3) (N := some 104) (v := ?_) (a' := ?_) #[true, true, true, true, false, false, false, false, false, false, false, false, false] rfl rfl (by kernel_rfl) (fun _ _ _ h => h) (Or.inl ⟨by rfl, ?_⟩) hHeld ?_ ?_
   rotate_left
   ·rintro w' ⟨s0, s1, s2_⟩
    go_simp
    with_reducible rfl
   rotate_left
   ·simp only [Act.put, List.setIfInBounds_toArray, List.set_cons_zero, List.set_cons_succ, i64_w, i32_w]
    rfl
   refine pure_ (i := 4) (N := some 105) (v := ?_) (a' := ?_) #[true, true, true, true, true, false, false, false, false, false, false, false, false] rfl rfl (by kernel_rfl) (fun _ _ _ h => h) (Or.inl ⟨by rfl, ?_⟩) ?_ ?_
   rotate_left
   ·intro w'
    go_simp
    with_reducible rfl
   rotate_left
   ·simp only [Act.put, List.setIfInBounds_toArray, List.set_cons_zero, List.set_cons_succ, i64_w, i32_w]
    rfl
   refine pure_ (i := 5) (N := some 106) (v := ?_) (a' := ?_) #[true, true, true, true, true, true, false, false, false, false, false, false, false] rfl rfl (by kernel_rfl) (fun _ _ _ h => h) (Or.inl ⟨by rfl, ?_⟩) ?_ ?_
   rotate_left
   ·intro w'
    go_simp
    with_reducible rfl
   rotate_left
   ·simp only [Act.put, List.setIfInBounds_toArray, List.set_cons_zero, List.set_cons_succ, i64_w, i32_w]
    rfl
   refine pure_ (i := 6) (N := some 107) (v := ?_) (a' := ?_) #[true, true, true, true, true, true, true, false, false, false, false, false, false] rfl rfl (by kernel_rfl) (fun _ _ _ h => h) (Or.inl ⟨by rfl, ?_⟩) ?_ ?_
   rotate_left
   ·intro w'
    go_simp
    with_reducible rfl
   rotate_left
   ·simp only [Act.put, List.setIfInBounds_toArray, List.set_cons_zero, List.set_cons_succ, i64_w, i32_w]
    rfl
   refine take_ (i := 7) (N := some 108) (v := ?_) (a' := ?_) #[true, true, true, true, true, true, true, true, false, false, false, false, false] rfl rfl (by kernel_rfl) (fun _ _ _ h => h) (Or.inl ⟨by rfl, ?_⟩) hHeld ?_ ?_
   rotate_left
   ·rintro w' ⟨s0, s1, s2_⟩
    go_simp
    with_reducible rfl
   rotate_left
   ·simp only [Act.put, List.setIfInBounds_toArray, List.set_cons_zero, List.set_cons_succ, i64_w, i32_w]
    rfl
   refine pure_ (i := 12) (N := some 113) (v := ?_) (a' := ?_) #[true, true, true, true, true, true, true, true, false, false, false, false, true] rfl rfl (by kernel_rfl) (fun _ _ _ h => h) (Or.inl ⟨by rfl, ?_⟩) ?_ ?_
   rotate_left
   ·intro w'
    go_simp
    with_reducible rfl
   rotate_left
   ·simp only [Act.put, List.setIfInBounds_toArray, List.set_cons_zero, List.set_cons_succ, i64_w, i32_w]
    rfl
   refine one_ (i := 8) (N := some 109) #[true, true, true, true, true, true, true, true, true, false, false, false, true] rfl rfl (by kernel_rfl) (by decide) (fun K hK => ?_)
   refine goes_ Try.func54 (by kernel_rfl) rfl #[.int .i64 now, .int .i64 0] (by rfl) rfl rfl (by (try simp only [List.map_toArray, List.map_cons, List.map_nil]); first | done | rfl) ?_
   refine (impl_slotAt.calls k now 0 s _ HSE.out).mono ?_
   rintro e w' ⟨rfl, ⟨nd, rfl⟩⟩
   refine ⟨_, rfl, ?_⟩
   have nHTK := Aside0.mk (HTK.out.below (pw_below_drewN (Below.refl _ _) nd))
   have nHXR := Aside0.mk (pw_cell_below (pw_below_drewN (Below.refl _ _) nd) HXR.out)
   clear HTK
   clear HXR
   have HTK := nHTK
   clear nHTK
   have HXR := nHXR
   clear nHXR
   refine hK.out _ _ ⟨((blk_cell (HTK.out.box HX0.out) 0).trans rfl), ((blk_cell (HTK.out.box HX0.out) 1).trans rfl), HXR.out⟩ (fun hHeld => ?_)
   clear hK K
   refine norm_ (a' := ?_) ?_ ?_
   rotate_left
   ·show Act.put _ (some 109) _ = _
    simp only [Act.put, List.setIfInBounds_toArray, List.set_cons_zero, List.set_cons_succ, i64_w, i32_w]
    rfl
   generalize World.drewN wa nd = wb at HTK HXR hHeld ⊢
   refine pure_ (i := 9) (N := some 110) (v := ?_) (a' := ?_) #[true, true, true, true, true, true, true, true, true, true, false, false, true] rfl rfl (by kernel_rfl) (fun _ _ _ h => h) (Or.inl ⟨by rfl, ?_⟩) ?_ ?_
   rotate_left
   ·intro w'
    go_simp
    with_reducible rfl
   rotate_left
   ·simp only [Act.put, List.setIfInBounds_toArray, List.set_cons_zero, List.set_cons_succ, i64_w, i32_w]
    rfl
   refine take_ (i := 10) (N := some 111) (v := ?_) (a' := ?_) #[true, true, true, true, true, true, true, true, true, true, true, false, true] rfl rfl (by kernel_rfl) (fun _ _ _ h => h) (Or.inl ⟨by rfl, ?_⟩) hHeld ?_ ?_
   rotate_left
   ·rintro w' ⟨s0, s1, s2_⟩
    go_simp
    with_reducible rfl
   rotate_left
   ·simp only [Act.put, List.setIfInBounds_toArray, List.set_cons_zero, List.set_cons_succ, i64_w, i32_w]
    rfl
   refine pure_ (i := 11) (N := some 112) (v := ?_) (a' := ?_) #[true, true, true, true, true, true, true, true, true, true, true, true, true] rfl rfl (by kernel_rfl) (fun _ _ _ h => h) (Or.inl ⟨by rfl, ?_⟩) ?_ ?_
   rotate_left
   ·intro w'
    go_simp
    with_reducible rfl
   rotate_left
   ·simp only [Act.put, List.setIfInBounds_toArray, List.set_cons_zero, List.set_cons_succ, i64_w, i32_w]
    rfl
   refine done_ (by kernel_rfl) ?_
   clear hHeld
   go_wp2
   go_loopg [4, 113] row.length (fun kq v5 v92 w' => ∃ (x : Int) (vd : Value) (d : List Int), v5 = vd ∧ v92 = .int .i64 x ∧ Aside0 (0 ≤ x ∧ x.toNat + kq = row.length) ∧ Aside0 (TK P w0 w1 g n c bs (fun _ => False) (.slice none 0 0) [] w' L1 vd d) ∧ Aside0 (w'.cell? ⟨g, s.toNat, none⟩ = some (.slice A2 row.length c2)) ∧ Aside0 (tkDue imPut false (row.drop x.toNat) d cnt = some (e1, e2)))
   case atStart => exact ⟨0, _, d, rfl, rfl, ⟨by omega, by simp⟩, HTK, HXR, ⟨by simpa using HIN.out⟩⟩
   case round =>
    clear HTK HIN HXR
    obtain ⟨x, vd2, d2, rfl, rfl, HJ, HTK, HXR, HIN⟩ := hrel
    have HC2 := Aside0.mk (show Kd.C k45 wr A2 row.length row by rw [HROW.out]; exact HTK.out.row_C HW.out HP.out s.toNat (by rw [HNL.out]; have := HSB.out; omega) HXR.out)
    by_cases hlt : x < (row.length : Int)
    ·have p8 : 0 ≤ x := HJ.out.1
     obtain ⟨ad, e0, hx0, hx1⟩ := at_T45 HC2.out x p8 hlt
     cases e0
     have hltb : decide (x < (row.length : Int)) = true := decide_eq_true hlt
     have HJ2 := Aside0.mk hlt
     replace p8 := eq_true p8
     have q8 := eq_true hlt
     obtain ⟨t, ht⟩ : ∃ t, t = rd_T45 row x := ⟨_, rfl⟩
     rw [← ht] at hx0 hx1
     have hdr : row.drop x.toNat = t :: row.drop (x.toNat + 1) := by
      have hl2 : x.toNat < row.length := by have := HJ.out.1; omega
      rw [List.drop_eq_getElem_cons hl2, ht]
      unfold rd_T45
      rw [List.getD_eq_getElem?_getD, List.getElem?_eq_getElem hl2]; rfl
     have hI := HIN.out
     rw [hdr] at hI
     simp only [tkDue, Bool.false_eq_true, if_false] at hI
     replace hI := Option.bind_eq_some_iff.1 hI
     obtain ⟨d3, hpi, hI⟩ := hI
     unfold imPut at hpi
     by_cases hd2 : d2.length < 4000000
     case neg => rw [if_neg hd2] at hpi; cases hpi
     rw [if_pos hd2] at hpi
     have HD3 := Aside0.mk (Option.some.inj hpi)
     have HD2 := Aside0.mk hd2
     clear hdr ht hlt HIN hpi hd2
     have HIN := Aside0.mk hI
     clear hI
     have HBA := Aside0.mk (below_alloc (Below.refl wr.heap.size wr) (.cells #[.int .i64 t.f0, .int .i64 t.f1] 45))
     have HTA := Aside0.mk (HTK.out.below HBA.out)
     have HXA := Aside0.mk (pw_cell_below HBA.out HXR.out)
     have HW2 := Aside0.mk (show wrap64 (x + 1) = x + 1 by unfold wrap64; have := HJ2.out; have := HJ.out.1; have := HSB.out.2.2; omega)
     cases gk with
     | zero => exact absurd HJ.out.2 (by have := HJ2.out; have := HJ.out.1; omega)
     | succ k2 =>
      go_wp2_with ((with_reducible refine gate_builtin (b := .append) (xs := #[.tmp 117, .tmp 120]) rfl ?_); (try (refine gate_guard (by rfl) ?_; dsimp only)); at_builtin; refine Kd.R_append (Kd.int .i64) (w0 := World.alloc wr (.cells #[.int .i64 t.f0, .int .i64 t.f1] 45)) w1.heap.size rfl (.tmp 117) (.tmp 120) 53 3 (.int .i64 0) 8 rfl Try.underlying53 info3 rfl (by decide) (by omega) _ d2 t.f1 [.int .i64 t.f1] (fun _ => True) (fun _ => False) rfl ?aX ?aP (fun _ hk => hk.elim) (fun _ _ => trivial) HTA.out.D (Below.refl _ _) HTA.out.K.1 ?aL ?_; (case aX => (have e_ : (World.alloc wr (.cells #[.int .i64 t.f0, .int .i64 t.f1] 45)).heap.size = wr.heap.size + 1 := by simp); rw [e_]; rfl); (case aP => exact rfl); (case aL => have := HD2.out; omega); intro v5 w5 ho5 hb5 hg5 hat5; have HTB := Aside0.mk (HTA.out.grow HW.out hg5 ho5); have HXB := Aside0.mk (HTA.out.cell_grow HXA.out hg5); clear ho5 hb5 hg5 hat5)
      go_roundg k2
      case measure => omega
      case rel =>
       refine ⟨wrap64 (x + 1), _, d2 ++ [t.f1], rfl, rfl, ⟨?_, ?_⟩, HTB, HXB, ⟨?_⟩⟩
       ·rw [HW2.out]; have := HJ.out.1; omega
       ·rw [HW2.out]; have := HJ.out; omega
       ·rw [HW2.out, show (x + 1).toNat = x.toNat + 1 by have := HJ.out.1; omega, HD3.out]; exact HIN.out
    ·have hltb : decide (x < (row.length : Int)) = false := decide_eq_false hlt
     have HJ2 := Aside0.mk hlt
     clear hlt
     have hI := HIN.out
     rw [List.drop_of_length_le (by have := HJ2.out; have := HJ.out.1; omega)] at hI
     simp only [tkDue, Option.some.injEq, Prod.mk.injEq] at hI
     obtain ⟨rfl, rfl⟩ := hI
     go_wp2
     refine start_ (n := 11) (S := fun w' => w'.cell? ⟨gb, 0, none⟩ = some (.int .i64 now) ∧ w'.cell? ⟨gb, 1, none⟩ = some (.slice (some ⟨g, 0, none⟩) n c)) (ds := [10]) #[false, false, false, false, false, false, false, false, false, false, false] (by kernel_rfl) rfl rfl ⟨((blk_cell (HTK.out.box HX0.out) 0).trans rfl), ((blk_cell (HTK.out.box HX0.out) 1).trans rfl)⟩ (fun hHeld => ?_)
     have nHTK := Aside0.mk (HTK.out.below (below_drew1 (Below.refl _ _)))
     clear HTK
     generalize World.drew wr = wc_ at nHTK hHeld ⊢
     have HTK := nHTK
     clear nHTK
     refine pure_ (i := 0) (N := some 123) (v := ?_) (a' := ?_) #[true, false, false, false, false, false, false, false, false, false, false] rfl rfl (by kernel_rfl) (fun _ _ _ h => h) (Or.inl ⟨by rfl, ?_⟩) ?_ ?_
     rotate_left
     ·intro w'
      go_simp
      with_reducible rfl
     rotate_left
     ·simp only [Act.put, List.setIfInBounds_toArray, List.set_cons_zero, List.set_cons_succ, i64_w, i32_w]
      rfl
     refine pure_ (i := 1) (N := some 124) (v := ?_) (a' := ?_) #[true, true, false, false, false, false, false, false, false, false, false] rfl rfl (by kernel_rfl) (fun _ _ _ h => h) (Or.inl ⟨by rfl, ?_⟩) ?_ ?_
     rotate_left
     ·intro w'
      go_simp
      with_reducible rfl
     rotate_left
     ·simp only [Act.put, List.setIfInBounds_toArray, List.set_cons_zero, List.set_cons_succ, i64_w, i32_w]
      rfl
     refine pure_ (i := 2) (N := some 125) (v := ?_) (a' := ?_) #[true, true, true, false, false, false, false, false, false, false, false] rfl rfl (by kernel_rfl) (fun _ _ _ h => h) (Or.inl ⟨by rfl, ?_⟩) ?_ ?_
     rotate_left
     ·intro w'
      go_simp
      with_reducible rfl
     rotate_left
     ·simp only [Act.put, List.setIfInBounds_toArray, List.set_cons_zero, List.set_cons_succ, i64_w, i32_w]
      rfl
     refine take_ (i := 3) (N := some 126) (v := ?_) (a' := ?_) #[true, true, true, true, false, false, false, false, false, false, false] rfl rfl (by kernel_rfl) (fun _ _ _ h => h) (Or.inl ⟨by rfl, ?_⟩) hHeld ?_ ?_
     rotate_left
     ·rintro w' ⟨s0, s1⟩
      go_simp
      with_reducible rfl
     rotate_left
     ·simp only [Act.put, List.setIfInBounds_toArray, List.set_cons_zero, List.set_cons_succ, i64_w, i32_w]
      rfl
     refine pure_ (i := 4) (N := some 127) (v := ?_) (a' := ?_) #[true, true, true, true, true, false, false, false, false, false, false] rfl rfl (by kernel_rfl) (fun _ _ _ h => h) (Or.inl ⟨by rfl, ?_⟩) ?_ ?_
     rotate_left
     ·intro w'
      go_simp
      with_reducible rfl
     rotate_left
     ·simp only [Act.put, List.setIfInBounds_toArray, List.set_cons_zero, List.set_cons_succ, i64_w, i32_w]
      rfl
     refine pure_ (i := 5) (N := some 128) (v := ?_) (a' := ?_) #[true, true, true, true, true, true, false, false, false, false, false] rfl rfl (by kernel_rfl) (fun _ _ _ h => h) (Or.inl ⟨by rfl, ?_⟩) ?_ ?_
     rotate_left
     ·intro w'
      go_simp
      with_reducible rfl
     rotate_left
     ·simp only [Act.put, List.setIfInBounds_toArray, List.set_cons_zero, List.set_cons_succ, i64_w, i32_w]
      rfl
     refine pure_ (i := 6) (N := some 129) (v := ?_) (a' := ?_) #[true, true, true, true, true, true, true, false, false, false, false] rfl rfl (by kernel_rfl) (fun _ _ _ h => h) (Or.inl ⟨by rfl, ?_⟩) ?_ ?_
     rotate_left
     ·intro w'
      go_simp
      with_reducible rfl
     rotate_left
     ·simp only [Act.put, List.setIfInBounds_toArray, List.set_cons_zero, List.set_cons_succ, i64_w, i32_w]
      rfl
     refine take_ (i := 7) (N := some 130) (v := ?_) (a' := ?_) #[true, true, true, true, true, true, true, true, false, false, false] rfl rfl (by kernel_rfl) (fun _ _ _ h => h) (Or.inl ⟨by rfl, ?_⟩) hHeld ?_ ?_
     rotate_left
     ·rintro w' ⟨s0, s1⟩
      go_simp
      with_reducible rfl
     rotate_left
     ·simp only [Act.put, List.setIfInBounds_toArray, List.set_cons_zero, List.set_cons_succ, i64_w, i32_w]
      rfl
     refine one_ (i := 8) (N := some 131) #[true, true, true, true, true, true, true, true, true, false, false] rfl rfl (by kernel_rfl) (by decide) (fun K hK => ?_)
     refine goes_ Try.func54 (by kernel_rfl) rfl #[.int .i64 now, .int .i64 0] (by rfl) rfl rfl (by (try simp only [List.map_toArray, List.map_cons, List.map_nil]); first | done | rfl) ?_
     refine (impl_slotAt.calls k now 0 s _ HSE.out).mono ?_
     rintro e w' ⟨rfl, ⟨nd, rfl⟩⟩
     refine ⟨_, rfl, ?_⟩
     have nHTK := Aside0.mk (HTK.out.below (pw_below_drewN (Below.refl _ _) nd))
     clear HTK
     have HTK := nHTK
     clear nHTK
     refine hK.out _ _ ⟨((blk_cell (HTK.out.box HX0.out) 0).trans rfl), ((blk_cell (HTK.out.box HX0.out) 1).trans rfl)⟩ (fun hHeld => ?_)
     clear hK K
     refine norm_ (a' := ?_) ?_ ?_
     rotate_left
     ·show Act.put _ (some 131) _ = _
      simp only [Act.put, List.setIfInBounds_toArray, List.set_cons_zero, List.set_cons_succ, i64_w, i32_w]
      rfl
     generalize World.drewN wc_ nd = wd at HTK hHeld ⊢
     refine pure_ (i := 9) (N := some 132) (v := ?_) (a' := ?_) #[true, true, true, true, true, true, true, true, true, true, false] rfl rfl (by kernel_rfl) (fun _ _ _ h => h) (Or.inl ⟨by rfl, ?_⟩) ?_ ?_
     rotate_left
     ·intro w'
      go_simp
      with_reducible rfl
     rotate_left
     ·simp only [Act.put, List.setIfInBounds_toArray, List.set_cons_zero, List.set_cons_succ, i64_w, i32_w]
      rfl
     refine last_ (i := 10) (N := none) #[true, true, true, true, true, true, true, true, true, true, true] rfl rfl (by kernel_rfl) (by decide) (fun K hK => ?_)
     obtain ⟨Q, A3, c3, hx, hf, htk⟩ := HTK.out.take_out HW.out HP.out s.toNat (by rw [HNL.out]; have := HSB.out; omega)
     have HTE := Aside0.mk htk.forget
     clear htk
     refine skip_ (w1 := ?_) (by rfl) rfl ?_ ?_
     rotate_left
     ·go_simp
      rfl
     clear hx hf
     refine hK.out _ _ ?_
     clear hK K
     refine done_ (by kernel_rfl) ?_
     clear hHeld
     obtain ⟨Ad, cd, rfl⟩ := Kd.R_slice HTE.out.D
     go_wp2_with (go_at_call 82; refine (slices_Sort_int.own Ad _ cd d2 w1.heap.size (fun _ => True) _ HTE.out.D (by have := HDL.out; omega)).mono ?_; rintro e w2 ⟨rfl, hr3, hg3⟩; have HTZ := Aside0.mk (HTE.out.grow HW.out hg3 hr3); clear hr3 hg3)
     go_ret2
     have h1 := HTZ.out
     exact ⟨_, rfl, h1.box HX0.out, Kd.S_mono h1.S (fun _ hk => by rw [← HSZ.out]; exact hk.1), by rw [← HSZ.out]; exact h1.D, h1.B, HK1.out.then_ h1.K (fun k hk => .inl (.inl hk))⟩
  | succ m =>
   have hF := HF.out
   simp only [tkRest] at hF
   replace hF := Option.bind_eq_some_iff.1 hF
   obtain ⟨⟨b1, b2, b3⟩, hLev, hF⟩ := hF
   have HF2 := Aside0.mk hF
   unfold tkLev at hLev
   replace hLev := Option.bind_eq_some_iff.1 hLev
   obtain ⟨q, hq, hLev⟩ := hLev
   unfold imRem at hq
   replace hq := Option.bind_eq_some_iff.1 hq
   obtain ⟨p, hp, hq⟩ := hq
   rw [← HM.out.1] at hp
   have HPW := Aside0.mk hp
   by_cases hp0 : p = 0
   case pos => rw [if_pos hp0] at hq; cases hq
   rw [if_neg hp0] at hq
   have hq2 := Option.some.inj hq
   have hpb : (p == 0) = false := beq_eq_false_iff_ne.mpr hp0
   have hpf : (p = 0) = False := eq_false hp0
   have hl0 : decide (lev > 0) = true := decide_eq_true (by have := HM.out; omega)
   have hl1 : decide (0 < lev) = true := decide_eq_true (by have := HM.out; omega)
   have HLQ := Aside0.mk hLev
   have HQ2 := Aside0.mk hq2
   have HP0 := Aside0.mk hp0
   clear hF HF hp hq hLev hq2 hp0
   have hdec : wrap64 (lev - 1) = (m : Int) := by have h1 := HM.out.1; have h2 := HM.out.2; unfold wrap64; omega
   have HDEC := Aside0.mk hdec
   clear hdec
   go_wp2
   refine start_ (n := 8) (S := fun w' => w'.cell? ⟨gb, 0, none⟩ = some (.int .i64 now)) (ds := []) #[false, false, false, false, false, false, false, false] (by kernel_rfl) rfl rfl ((blk_cell (HTK.out.box HX0.out) 0).trans rfl) (fun hHeld => ?_)
   have nHTK := Aside0.mk (HTK.out.below (below_drew1 (Below.refl _ _)))
   clear HTK
   generalize World.drew wr = wa at nHTK hHeld ⊢
   have HTK := nHTK
   clear nHTK
   refine pure_ (i := 0) (N := some 27) (v := ?_) (a' := ?_) #[true, false, false, false, false, false, false, false] rfl rfl (by kernel_rfl) (fun _ _ _ h => h) (Or.inl ⟨by rfl, ?_⟩) ?_ ?_
   rotate_left
   ·intro w'
    go_simp
    with_reducible rfl
   rotate_left
   ·simp only [Act.put, List.setIfInBounds_toArray, List.set_cons_zero, List.set_cons_succ, i64_w, i32_w]
    rfl
   refine pure_ (i := 1) (N := some 28) (v := ?_) (a' := ?_) #[true, true, false, false, false, false, false, false] rfl rfl (by kernel_rfl) (fun _ _ _ h => h) (Or.inl ⟨by rfl, ?_⟩) ?_ ?_
   rotate_left
   ·intro w'
    go_simp
    with_reducible rfl
   rotate_left
   ·simp only [Act.put, List.setIfInBounds_toArray, List.set_cons_zero, List.set_cons_succ, i64_w, i32_w]
    rfl
   refine pure_ (i := 2) (N := some 29) (v := ?_) (a' := ?_) #[true, true, true, false, false, false, false, false] rfl rfl (by kernel_rfl) (fun _ _ _ h => h) (Or.inl ⟨by rfl, ?_⟩) ?_ ?_
   rotate_left
   ·intro w'
    go_simp
    with_reducible rfl
   rotate_left
   ·simp only [Act.put, List.setIfInBounds_toArray, List.set_cons_zero, List.set_cons_succ, i64_w, i32_w]
    rfl
   refine take_ (i := 3) (N := some 30) (v := ?_) (a' := ?_) #[true, true, true, true, false, false, false, false] rfl rfl (by kernel_rfl) (fun _ _ _ h => h) (Or.inl ⟨by rfl, ?_⟩) hHeld ?_ ?_
   rotate_left
   ·rintro w' s0
    go_simp
    with_reducible rfl
   rotate_left
   ·simp only [Act.put, List.setIfInBounds_toArray, List.set_cons_zero, List.set_cons_succ, i64_w, i32_w]
    rfl
   refine pure_ (i := 4) (N := some 31) (v := ?_) (a' := ?_) #[true, true, true, true, true, false, false, false] rfl rfl (by kernel_rfl) (fun _ _ _ h => h) (Or.inl ⟨by rfl, ?_⟩) ?_ ?_
   rotate_left
   ·intro w'
    go_simp
    with_reducible rfl
   rotate_left
   ·simp only [Act.put, List.setIfInBounds_toArray, List.set_cons_zero, List.set_cons_succ, i64_w, i32_w]
    rfl
   refine one_ (i := 5) (N := some 32) #[true, true, true, true, true, true, false, false] rfl rfl (by kernel_rfl) (by decide) (fun K hK => ?_)
   refine goes_ Try.func72 (by kernel_rfl) rfl #[.int .i64 lev] (by rfl) rfl rfl (by (try simp only [List.map_toArray, List.map_cons, List.map_nil]); first | done | rfl) ?_
   refine (impl_units.calls k lev p _ HPW.out).mono ?_
   rintro e w' ⟨rfl, ⟨nd, rfl⟩⟩
   refine ⟨_, rfl, ?_⟩
   have nHTK := Aside0.mk (HTK.out.below (pw_below_drewN (Below.refl _ _) nd))
   clear HTK
   have HTK := nHTK
   clear nHTK
   refine hK.out _ _ ((blk_cell (HTK.out.box HX0.out) 0).trans rfl) (fun hHeld => ?_)
   clear hK K
   refine norm_ (a' := ?_) ?_ ?_
   rotate_left
   ·show Act.put _ (some 32) _ = _
    simp only [Act.put, List.setIfInBounds_toArray, List.set_cons_zero, List.set_cons_succ, i64_w, i32_w]
    rfl
   generalize World.drewN wa nd = wb at HTK hHeld ⊢
   refine pure_ (i := 6) (N := some 33) (v := ?_) (a' := ?_) #[true, true, true, true, true, true, true, false] rfl rfl (by kernel_rfl) (fun _ _ _ h => h) (Or.inl ⟨by rfl, ?_⟩) ?_ ?_
   rotate_left
   ·intro w'
    go_simp
    with_reducible rfl
   rotate_left
   ·simp only [Act.put, List.setIfInBounds_toArray, List.set_cons_zero, List.set_cons_succ, i64_w, i32_w]
    rfl
   refine pure_ (i := 7) (N := some 34) (v := ?_) (a' := ?_) #[true, true, true, true, true, true, true, true] rfl rfl (by kernel_rfl) (fun _ _ _ h => h) (Or.inl ⟨by rfl, ?_⟩) ?_ ?_
   rotate_left
   ·intro w'
    go_simp
    with_reducible rfl
   rotate_left
   ·simp only [Act.put, List.setIfInBounds_toArray, List.set_cons_zero, List.set_cons_succ, i64_w, i32_w]
    rfl
   refine done_ (by kernel_rfl) ?_
   clear hHeld
   by_cases hq0 : q = 0
   case neg =>
    have hqb : (now.tmod p != 0) = true := by rw [HQ2.out]; exact bne_iff_ne.mpr hq0
    have hL := HLQ.out
    rw [if_neg hq0] at hL
    simp only [Option.some.injEq, Prod.mk.injEq] at hL
    obtain ⟨rfl, rfl, rfl⟩ := hL
    clear hq0
    go_wp2
    go_roundg k1
    case measure => omega
    case rel => exact ⟨m, wrap64 (lev - 1), cnt, _, d, L1, rfl, rfl, rfl, ⟨HDEC.out, by have := HM.out; omega, by have := HM.out; omega⟩, HTK, HF2⟩
   case pos =>
    have hqb : (now.tmod p != 0) = false := by rw [HQ2.out, hq0]; rfl
    have hL := HLQ.out
    rw [if_pos hq0] at hL
    replace hL := Option.bind_eq_some_iff.1 hL
    obtain ⟨s, hs, hL⟩ := hL
    rw [← HM.out.1] at hs
    have HSE := Aside0.mk hs
    by_cases hsb : 0 ≤ s ∧ s < (L1.length : Int) ∧ (L1.getD s.toNat []).length < 4000000
    case neg => rw [if_neg hsb] at hL; cases hL
    rw [if_pos hsb] at hL
    have HSB := Aside0.mk hsb
    have HIN := Aside0.mk hL
    clear hs hsb hL HLQ hq0
    simp only [hqb]
    have hz0 : wb.cell? ⟨gb, 0, none⟩ = some (.int .i64 now) := (blk_cell (HTK.out.box HX0.out) 0).trans rfl
    have hs0 : decide (0 ≤ s) = true := decide_eq_true HSB.out.1
    have HNL := Aside0.mk HTK.out.len
    have hs1 : (s < (n : Int)) = True := eq_true (by rw [HNL.out]; exact HSB.out.2.1)
    have hs2 : decide (s < (n : Int)) = true := decide_eq_true (by rw [HNL.out]; exact HSB.out.2.1)
    have hs3 : (0 ≤ s) = True := eq_true HSB.out.1
    obtain ⟨row, hrow⟩ : ∃ row, row = L1.getD s.toNat [] := ⟨_, rfl⟩
    rw [← hrow] at HIN HSB
    go_wp2_with (
     go_at_call 54
     refine (impl_slotAt.calls k now lev s _ HSE.out).mono ?_
     rintro e w2 ⟨rfl, ⟨nd, rfl⟩⟩
     have nTK := Aside0.mk (HTK.out.below (pw_below_drewN (Below.refl _ _) nd))
     clear HTK hz0
     generalize World.drewN wb nd = wd at nTK ⊢
     have HTK := nTK
     clear nTK
     obtain ⟨Q, A2, c2, hx, hf, htk⟩ := HTK.out.take_out HW.out HP.out s.toNat (by rw [HNL.out]; have := HSB.out; omega)
     rw [← hrow] at htk hx
     have HTK2 := Aside0.mk htk
     have hz1 : wd.cell? ⟨gb, 1, none⟩ = some (.slice (some ⟨g, 0, none⟩) n c) := (blk_cell (HTK.out.box HX0.out) 1).trans rfl
     clear htk hrow)
    clear hz1 hx hf HTK
    go_loopg [4, 5, 56] row.length (fun kq v5 v6 v50 w' => ∃ (x cnt : Int) (vd : Value) (d : List Int) (L2 : List (List S45)), v5 = vd ∧ v6 = .int .i64 cnt ∧ v50 = .int .i64 x ∧ Aside0 (0 ≤ x ∧ x.toNat + kq = row.length) ∧ Aside0 (TK P w0 w1 g n c bs Q (.slice A2 row.length c2) row w' L2 vd d) ∧ Aside0 (tkPut imPut (imSlot k now) false now (row.drop x.toNat) L2 d cnt = some (b1, b2, b3)))
    case atStart => exact ⟨0, cnt, _, d, L1.set s.toNat [], rfl, rfl, rfl, ⟨by omega, by simp⟩, HTK2, ⟨by simpa using HIN.out⟩⟩
    case round =>
     clear HTK2 HIN HSE
     obtain ⟨x, cnt2, vd2, d2, L2, rfl, rfl, rfl, HJ, HTK, HIN⟩ := hrel
     by_cases hlt : x < (row.length : Int)
     ·have p8 : 0 ≤ x := HJ.out.1
      obtain ⟨ad, e0, hx0, hx1⟩ := at_T45 (Kd.R_reads' HTK.out.R).2.2 x p8 hlt
      cases e0
      have hltb : decide (x < (row.length : Int)) = true := decide_eq_true hlt
      have HJ2 := Aside0.mk hlt
      replace p8 := eq_true p8
      have q8 := eq_true hlt
      obtain ⟨t, ht⟩ : ∃ t, t = rd_T45 row x := ⟨_, rfl⟩
      rw [← ht] at hx0 hx1
      have hdr : row.drop x.toNat = t :: row.drop (x.toNat + 1) := by
       have hl2 : x.toNat < row.length := by have := HJ.out.1; omega
       rw [List.drop_eq_getElem_cons hl2, ht]
       unfold rd_T45
       rw [List.getD_eq_getElem?_getD, List.getElem?_eq_getElem hl2]; rfl
      have hI := HIN.out
      rw [hdr] at hI
      simp only [tkPut, Bool.false_eq_true, if_false] at hI
      clear hdr ht hlt HIN
      have HSA := Aside0.mk (below_alloc (Below.refl wr.heap.size wr) (.cells #[.int .i64 t.f0, .int .i64 t.f1] 45))
      have HBT : Aside0 ((wr.alloc (.cells #[.int .i64 t.f0, .int .i64 t.f1] 45)).heap[wr.heap.size]? = some (.cells #[.int .i64 t.f0, .int .i64 t.f1] 45 (0, 0))) := ⟨heap_alloc_new _ _⟩
      have HW2 := Aside0.mk (show wrap64 (x + 1) = x + 1 by unfold wrap64; have := HJ2.out; have := HJ.out.1; have := HSB.out.2.2; omega)
      cases gk with
      | zero => exact absurd HJ.out.2 (by have := HJ2.out; have := HJ.out.1; omega)
      | succ k2 =>
      by_cases hdue : t.f0 = now
      ·rw [if_pos hdue] at hI
       replace hI := Option.bind_eq_some_iff.1 hI
       obtain ⟨d3, hpi, hI⟩ := hI
       have HIN := Aside0.mk hI
       unfold imPut at hpi
       by_cases hd2 : d2.length < 4000000
       case neg => rw [if_neg hd2] at hpi; cases hpi
       rw [if_pos hd2] at hpi
       have HD3 := Aside0.mk (Option.some.inj hpi)
       have HD2 := Aside0.mk hd2
       have hdb : (t.f0 == now) = true := beq_iff_eq.mpr hdue
       clear hpi hI hdue hd2
       go_wp2
       refine start_ (n := 7) (S := fun w' => w'.cell? ⟨gb, 0, none⟩ = some (.int .i64 now) ∧ w'.cell? ⟨wr.heap.size, 0, none⟩ = some (.int .i64 t.f0)) (ds := []) #[false, false, false, false, false, false, false] (by kernel_rfl) rfl rfl ⟨((blk_cell ((HTK.out.below HSA.out).box HX0.out) 0).trans rfl), (blk_cell HBT.out 0).trans rfl⟩ (fun hHeld => ?_)
       have nHSA := Aside0.mk (below_then HSA.out HSA.out.size (below_drew1 (Below.refl _ _)))
       have nHBT := Aside0.mk (blk_below HBT.out (below_drew1 (Below.refl _ _)))
       clear HSA
       clear HBT
       generalize World.drew (World.alloc wr (.cells #[.int .i64 t.f0, .int .i64 t.f1] 45)) = we at nHSA nHBT hHeld ⊢
       have HSA := nHSA
       clear nHSA
       have HBT := nHBT
       clear nHBT
       refine pure_ (i := 0) (N := some 60) (v := ?_) (a' := ?_) #[true, false, false, false, false, false, false] rfl rfl (by kernel_rfl) (fun _ _ _ h => h) (Or.inl ⟨by rfl, ?_⟩) ?_ ?_
       rotate_left
       ·intro w'
        go_simp
        with_reducible rfl
       rotate_left
       ·simp only [Act.put, List.setIfInBounds_toArray, List.set_cons_zero, List.set_cons_succ, i64_w, i32_w]
        rfl
       refine take_ (i := 1) (N := some 61) (v := ?_) (a' := ?_) #[true, true, false, false, false, false, false] rfl rfl (by kernel_rfl) (fun _ _ _ h => h) (Or.inl ⟨by rfl, ?_⟩) hHeld ?_ ?_
       rotate_left
       ·rintro w' ⟨s0, s1⟩
        go_simp
        with_reducible rfl
       rotate_left
       ·simp only [Act.put, List.setIfInBounds_toArray, List.set_cons_zero, List.set_cons_succ, i64_w, i32_w]
        rfl
       refine pure_ (i := 2) (N := some 62) (v := ?_) (a' := ?_) #[true, true, true, false, false, false, false] rfl rfl (by kernel_rfl) (fun _ _ _ h => h) (Or.inl ⟨by rfl, ?_⟩) ?_ ?_
       rotate_left
       ·intro w'
        go_simp
        with_reducible rfl
       rotate_left
       ·simp only [Act.put, List.setIfInBounds_toArray, List.set_cons_zero, List.set_cons_succ, i64_w, i32_w]
        rfl
       refine pure_ (i := 3) (N := some 63) (v := ?_) (a' := ?_) #[true, true, true, true, false, false, false] rfl rfl (by kernel_rfl) (fun _ _ _ h => h) (Or.inl ⟨by rfl, ?_⟩) ?_ ?_
       rotate_left
       ·intro w'
        go_simp
        with_reducible rfl
       rotate_left
       ·simp only [Act.put, List.setIfInBounds_toArray, List.set_cons_zero, List.set_cons_succ, i64_w, i32_w]
        rfl
       refine pure_ (i := 4) (N := some 64) (v := ?_) (a' := ?_) #[true, true, true, true, true, false, false] rfl rfl (by kernel_rfl) (fun _ _ _ h => h) (Or.inl ⟨by rfl, ?_⟩) ?_ ?_
       rotate_left
       ·intro w'
        go_simp
        with_reducible rfl
       rotate_left
       ·simp only [Act.put, List.setIfInBounds_toArray, List.set_cons_zero, List.set_cons_succ, i64_w, i32_w]
        rfl
       refine take_ (i := 5) (N := some 65) (v := ?_) (a' := ?_) #[true, true, true, true, true, true, false] rfl rfl (by kernel_rfl) (fun _ _ _ h => h) (Or.inl ⟨by rfl, ?_⟩) hHeld ?_ ?_
       rotate_left
       ·rintro w' ⟨s0, s1⟩
        go_simp
        with_reducible rfl
       rotate_left
       ·simp only [Act.put, List.setIfInBounds_toArray, List.set_cons_zero, List.set_cons_succ, i64_w, i32_w]
        rfl
       refine pure_ (i := 6) (N := some 66) (v := ?_) (a' := ?_) #[true, true, true, true, true, true, true] rfl rfl (by kernel_rfl) (fun _ _ _ h => h) (Or.inl ⟨by rfl, ?_⟩) ?_ ?_
       rotate_left
       ·intro w'
        go_simp
        with_reducible rfl
       rotate_left
       ·simp only [Act.put, List.setIfInBounds_toArray, List.set_cons_zero, List.set_cons_succ, i64_w, i32_w]
        rfl
       refine done_ (by kernel_rfl) ?_
       clear hHeld
       have HTA := Aside0.mk (HTK.out.below HSA.out)
       have hzt : we.cell? ⟨wr.heap.size, 1, none⟩ = some (.int .i64 t.f1) := (blk_cell HBT.out 1).trans rfl
       go_wp2_with ((with_reducible refine gate_builtin (b := .append) (xs := #[.tmp 67, .tmp 70]) rfl ?_); (try (refine gate_guard (by rfl) ?_; dsimp only)); at_builtin; refine Kd.R_append (Kd.int .i64) (w0 := we) w1.heap.size rfl (.tmp 67) (.tmp 70) 53 3 (.int .i64 0) 8 rfl Try.underlying53 info3 rfl (by decide) (by omega) _ d2 t.f1 [.int .i64 t.f1] (fun _ => True) (fun _ => False) rfl rfl ?aP (fun _ hk => hk.elim) (fun _ _ => trivial) HTA.out.D (Below.refl _ _) HTA.out.K.1 ?aL ?_; (case aP => exact rfl); (case aL => have := HD2.out; omega); intro v5 w5 ho5 hb5 hg5 hat5; have HTB := Aside0.mk (HTA.out.grow HW.out hg5 ho5); clear ho5 hb5 hg5 hat5 hzt)
       go_roundg k2
       case measure => omega
       case rel =>
        refine ⟨wrap64 (x + 1), _, _, d2 ++ [t.f1], L2, rfl, rfl, rfl, ⟨?_, ?_⟩, HTB, ⟨?_⟩⟩
        ·rw [HW2.out]; have := HJ.out.1; omega
        ·rw [HW2.out]; have := HJ.out; omega
        ·rw [HW2.out, show (x + 1).toNat = x.toNat + 1 by have := HJ.out.1; omega, HD3.out]; exact HIN.out
      ·rw [if_neg hdue] at hI
       replace hI := Option.bind_eq_some_iff.1 hI
       obtain ⟨s2, hsl, hI⟩ := hI
       unfold imSlot at hsl
       replace hsl := Option.bind_eq_some_iff.1 hsl
       obtain ⟨⟨s2', b2_⟩, hsl, hE⟩ := hsl
       have hE2 : s2' = s2 := Option.some.inj hE
       subst hE2
       by_cases hsb2 : 0 ≤ s2' ∧ s2' < (L2.length : Int) ∧ (L2.getD s2'.toNat []).length < 4000000
       case neg => rw [if_neg hsb2] at hI; cases hI
       rw [if_pos hsb2] at hI
       have HSL := Aside0.mk hsl
       have HSB2 := Aside0.mk hsb2
       have HIN := Aside0.mk hI
       have hdb : (t.f0 == now) = false := beq_eq_false_iff_ne.mpr hdue
       have HNL2 := Aside0.mk HTK.out.len
       obtain ⟨oki, A3, c3, hR3, hx3, hf3, hog, hgw, hback⟩ := HTK.out.row_at HW.out HP.out s2'.toNat (by rw [HNL2.out]; have := hsb2; omega)
       obtain ⟨row3, hrow3⟩ : ∃ row3, row3 = L2.getD s2'.toNat [] := ⟨_, rfl⟩
       rw [← hrow3] at hR3 hx3 HSB2 HIN
       have HROW3 := Aside0.mk hrow3
       have HR3 := Aside0.mk hR3
       have HX3 := Aside0.mk hx3
       have HF3 := Aside0.mk hf3
       have HOG := Aside0.mk hog
       have HGW := Aside0.mk hgw
       have HBK := Aside0.mk (fun {W' : World} {okn : Nat → Prop} {v' : Value} {ys : List S45} => hback (W' := W') (okn := okn) (v' := v') (ys := ys))
       have hs20 : decide (0 ≤ s2') = true := decide_eq_true HSB2.out.1
       have hs21 : (s2' < (n : Int)) = True := eq_true (by rw [HNL2.out]; exact HSB2.out.2.1)
       have hs22 : decide (s2' < (n : Int)) = true := decide_eq_true (by rw [HNL2.out]; exact HSB2.out.2.1)
       have hs23 : (0 ≤ s2') = True := eq_true HSB2.out.1
       clear hsl hsb2 hI hdue hrow3 hR3 hx3 hf3 hog hgw hback hE
       go_wp2
       refine start_ (n := 7) (S := fun w' => w'.cell? ⟨gb, 0, none⟩ = some (.int .i64 now) ∧ w'.cell? ⟨wr.heap.size, 0, none⟩ = some (.int .i64 t.f0)) (ds := []) #[false, false, false, false, false, false, false] (by kernel_rfl) rfl rfl ⟨((blk_cell ((HTK.out.below HSA.out).box HX0.out) 0).trans rfl), (blk_cell HBT.out 0).trans rfl⟩ (fun hHeld => ?_)
       have nHSA := Aside0.mk (below_then HSA.out HSA.out.size (below_drew1 (Below.refl _ _)))
       have nHBT := Aside0.mk (blk_below HBT.out (below_drew1 (Below.refl _ _)))
       clear HSA
       clear HBT
       generalize World.drew (World.alloc wr (.cells #[.int .i64 t.f0, .int .i64 t.f1] 45)) = we at nHSA nHBT hHeld ⊢
       have HSA := nHSA
       clear nHSA
       have HBT := nHBT
       clear nHBT
       refine pure_ (i := 0) (N := some 60) (v := ?_) (a' := ?_) #[true, false, false, false, false, false, false] rfl rfl (by kernel_rfl) (fun _ _ _ h => h) (Or.inl ⟨by rfl, ?_⟩) ?_ ?_
       rotate_left
       ·intro w'
        go_simp
        with_reducible rfl
       rotate_left
       ·simp only [Act.put, List.setIfInBounds_toArray, List.set_cons_zero, List.set_cons_succ, i64_w, i32_w]
        rfl
       refine take_ (i := 1) (N := some 61) (v := ?_) (a' := ?_) #[true, true, false, false, false, false, false] rfl rfl (by kernel_rfl) (fun _ _ _ h => h) (Or.inl ⟨by rfl, ?_⟩) hHeld ?_ ?_
       rotate_left
       ·rintro w' ⟨s0, s1⟩
        go_simp
        with_reducible rfl
       rotate_left
       ·simp only [Act.put, List.setIfInBounds_toArray, List.set_cons_zero, List.set_cons_succ, i64_w, i32_w]
        rfl
       refine pure_ (i := 2) (N := some 62) (v := ?_) (a' := ?_) #[true, true, true, false, false, false, false] rfl rfl (by kernel_rfl) (fun _ _ _ h => h) (Or.inl ⟨by rfl, ?_⟩) ?_ ?_
       rotate_left
       ·intro w'
        go_simp
        with_reducible rfl
       rotate_left
       ·simp only [Act.put, List.setIfInBounds_toArray, List.set_cons_zero, List.set_cons_succ, i64_w, i32_w]
        rfl
       refine pure_ (i := 3) (N := some 63) (v := ?_) (a' := ?_) #[true, true, true, true, false, false, false] rfl rfl (by kernel_rfl) (fun _ _ _ h => h) (Or.inl ⟨by rfl, ?_⟩) ?_ ?_
       rotate_left
       ·intro w'
        go_simp
        with_reducible rfl
       rotate_left
       ·simp only [Act.put, List.setIfInBounds_toArray, List.set_cons_zero, List.set_cons_succ, i64_w, i32_w]
        rfl
       refine pure_ (i := 4) (N := some 64) (v := ?_) (a' := ?_) #[true, true, true, true, true, false, false] rfl rfl (by kernel_rfl) (fun _ _ _ h => h) (Or.inl ⟨by rfl, ?_⟩) ?_ ?_
       rotate_left
       ·intro w'
        go_simp
        with_reducible rfl
       rotate_left
       ·simp only [Act.put, List.setIfInBounds_toArray, List.set_cons_zero, List.set_cons_succ, i64_w, i32_w]
        rfl
       refine take_ (i := 5) (N := some 65) (v := ?_) (a' := ?_) #[true, true, true, true, true, true, false] rfl rfl (by kernel_rfl) (fun _ _ _ h => h) (Or.inl ⟨by rfl, ?_⟩) hHeld ?_ ?_
       rotate_left
       ·rintro w' ⟨s0, s1⟩
        go_simp
        with_reducible rfl
       rotate_left
       ·simp only [Act.put, List.setIfInBounds_toArray, List.set_cons_zero, List.set_cons_succ, i64_w, i32_w]
        rfl
       refine pure_ (i := 6) (N := some 66) (v := ?_) (a' := ?_) #[true, true, true, true, true, true, true] rfl rfl (by kernel_rfl) (fun _ _ _ h => h) (Or.inl ⟨by rfl, ?_⟩) ?_ ?_
       rotate_left
       ·intro w'
        go_simp
        with_reducible rfl
       rotate_left
       ·simp only [Act.put, List.setIfInBounds_toArray, List.set_cons_zero, List.set_cons_succ, i64_w, i32_w]
        rfl
       refine done_ (by kernel_rfl) ?_
       clear hHeld
       go_wp2
       refine start_ (n := 12) (S := fun w' => w'.cell? ⟨gb, 0, none⟩ = some (.int .i64 now) ∧ w'.cell? ⟨wr.heap.size, 0, none⟩ = some (.int .i64 t.f0)) (ds := []) #[false, false, false, false, false, false, false, false, false, false, false, false] (by kernel_rfl) rfl rfl ⟨((blk_cell ((HTK.out.below HSA.out).box HX0.out) 0).trans rfl), (blk_cell HBT.out 0).trans rfl⟩ (fun hHeld => ?_)
       have nHSA := Aside0.mk (below_then HSA.out HSA.out.size (below_drew1 (Below.refl _ _)))
       have nHBT := Aside0.mk (blk_below HBT.out (below_drew1 (Below.refl _ _)))
       clear HSA
       clear HBT
       generalize World.drew we = wf at nHSA nHBT hHeld ⊢
       have HSA := nHSA
       clear nHSA
       have HBT := nHBT
       clear nHBT
       refine pure_ (i := 0) (N := some 73) (v := ?_) (a' := ?_) #[true, false, false, false, false, false, false, false, false, false, false, false] rfl rfl (by kernel_rfl) (fun _ _ _ h => h) (Or.inl ⟨by rfl, ?_⟩) ?_ ?_
       rotate_left
       ·intro w'
        go_simp
        with_reducible rfl
       rotate_left
       ·simp only [Act.put, List.setIfInBounds_toArray, List.set_cons_zero, List.set_cons_succ, i64_w, i32_w]
        rfl
       refine pure_ (i := 1) (N := some 74) (v := ?_) (a' := ?_) #[true, true, false, false, false, false, false, false, false, false, false, false] rfl rfl (by kernel_rfl) (fun _ _ _ h => h) (Or.inl ⟨by rfl, ?_⟩) ?_ ?_
       rotate_left
       ·intro w'
        go_simp
        with_reducible rfl
       rotate_left
       ·simp only [Act.put, List.setIfInBounds_toArray, List.set_cons_zero, List.set_cons_succ, i64_w, i32_w]
        rfl
       refine pure_ (i := 2) (N := some 75) (v := ?_) (a' := ?_) #[true, true, true, false, false, false, false, false, false, false, false, false] rfl rfl (by kernel_rfl) (fun _ _ _ h => h) (Or.inl ⟨by rfl, ?_⟩) ?_ ?_
       rotate_left
       ·intro w'
        go_simp
        with_reducible rfl
       rotate_left
       ·simp only [Act.put, List.setIfInBounds_toArray, List.set_cons_zero, List.set_cons_succ, i64_w, i32_w]
        rfl
       refine take_ (i := 3) (N := some 76) (v := ?_) (a' := ?_) #[true, true, true, true, false, false, false, false, false, false, false, false] rfl rfl (by kernel_rfl) (fun _ _ _ h => h) (Or.inl ⟨by rfl, ?_⟩) hHeld ?_ ?_
       rotate_left
       ·rintro w' ⟨s0, s1⟩
        go_simp
        with_reducible rfl
       rotate_left
       ·simp only [Act.put, List.setIfInBounds_toArray, List.set_cons_zero, List.set_cons_succ, i64_w, i32_w]
        rfl
       refine pure_ (i := 4) (N := some 77) (v := ?_) (a' := ?_) #[true, true, true, true, true, false, false, false, false, false, false, false] rfl rfl (by kernel_rfl) (fun _ _ _ h => h) (Or.inl ⟨by rfl, ?_⟩) ?_ ?_
       rotate_left
       ·intro w'
        go_simp
        with_reducible rfl
       rotate_left
       ·simp only [Act.put, List.setIfInBounds_toArray, List.set_cons_zero, List.set_cons_succ, i64_w, i32_w]
        rfl
       refine take_ (i := 5) (N := some 78) (v := ?_) (a' := ?_) #[true, true, true, true, true, true, false, false, false, false, false, false] rfl rfl (by kernel_rfl) (fun _ _ _ h => h) (Or.inl ⟨by rfl, ?_⟩) hHeld ?_ ?_
       rotate_left
       ·rintro w' ⟨s0, s1⟩
        go_simp
        with_reducible rfl
       rotate_left
       ·simp only [Act.put, List.setIfInBounds_toArray, List.set_cons_zero, List.set_cons_succ, i64_w, i32_w]
        rfl
       refine one_ (i := 6) (N := some 79) #[true, true, true, true, true, true, true, false, false, false, false, false] rfl rfl (by kernel_rfl) (by decide) (fun K hK => ?_)
       refine goes_ Try.func44 (by kernel_rfl) rfl #[.int .i64 now, .int .i64 t.f0] (by rfl) rfl rfl (by (try simp only [List.map_toArray, List.map_cons, List.map_nil]); first | done | rfl) ?_
       refine (impl_slotFor.calls k now t.f0 s2' b2_ _ HSL.out).mono ?_
       rintro e w' ⟨rfl, ⟨nd, rfl⟩⟩
       refine ⟨_, rfl, ?_⟩
       have nHSA := Aside0.mk (below_then HSA.out HSA.out.size (pw_below_drewN (Below.refl _ _) nd))
       have nHBT := Aside0.mk (blk_below HBT.out (pw_below_drewN (Below.refl _ _) nd))
       clear HSA
       clear HBT
       have HSA := nHSA
       clear nHSA
       have HBT := nHBT
       clear nHBT
       refine hK.out _ _ ⟨((blk_cell ((HTK.out.below HSA.out).box HX0.out) 0).trans rfl), (blk_cell HBT.out 0).trans rfl⟩ (fun hHeld => ?_)
       clear hK K
       refine norm_ (a' := ?_) ?_ ?_
       rotate_left
       ·show Act.put _ (some 79) _ = _
        simp only [Act.put, List.setIfInBounds_toArray, List.set_cons_zero, List.set_cons_succ, i64_w, i32_w]
        rfl
       generalize World.drewN wf nd = wg at HSA HBT hHeld ⊢
       refine pure_ (i := 7) (N := some 72) (v := ?_) (a' := ?_) #[true, true, true, true, true, true, true, true, false, false, false, false] rfl rfl (by kernel_rfl) (fun _ _ _ h => h) (Or.inl ⟨by rfl, ?_⟩) ?_ ?_
       rotate_left
       ·intro w'
        go_simp
        with_reducible rfl
       rotate_left
       ·simp only [Act.put, List.setIfInBounds_toArray, List.set_cons_zero, List.set_cons_succ, i64_w, i32_w]
        rfl
       refine pure_ (i := 8) (N := some 80) (v := ?_) (a' := ?_) #[true, true, true, true, true, true, true, true, true, false, false, false] rfl rfl (by kernel_rfl) (fun _ _ _ h => h) (Or.inl ⟨by rfl, ?_⟩) ?_ ?_
       rotate_left
       ·intro w'
        go_simp
        with_reducible rfl
       rotate_left
       ·simp only [Act.put, List.setIfInBounds_toArray, List.set_cons_zero, List.set_cons_succ, i64_w, i32_w]
        rfl
       refine pure_ (i := 9) (N := some 81) (v := ?_) (a' := ?_) #[true, true, true, true, true, true, true, true, true, true, false, false] rfl rfl (by kernel_rfl) (fun _ _ _ h => h) (Or.inl ⟨by rfl, ?_⟩) ?_ ?_
       rotate_left
       ·intro w'
        go_simp
        with_reducible rfl
       rotate_left
       ·simp only [Act.put, List.setIfInBounds_toArray, List.set_cons_zero, List.set_cons_succ, i64_w, i32_w]
        rfl
       refine pure_ (i := 10) (N := some 11) (v := ?_) (a' := ?_) #[true, true, true, true, true, true, true, true, true, true, true, false] rfl rfl (by kernel_rfl) (fun _ _ _ h => h) (Or.inl ⟨by rfl, ?_⟩) ?_ ?_
       rotate_left
       ·intro w'
        go_simp
        with_reducible rfl
       rotate_left
       ·simp only [Act.put, List.setIfInBounds_toArray, List.set_cons_zero, List.set_cons_succ, i64_w, i32_w]
        rfl
       refine pure_ (i := 11) (N := some 12) (v := ?_) (a' := ?_) #[true, true, true, true, true, true, true, true, true, true, true, true] rfl rfl (by kernel_rfl) (fun _ _ _ h => h) (Or.inl ⟨by rfl, ?_⟩) ?_ ?_
       rotate_left
       ·intro w'
        go_simp
        with_reducible rfl
       rotate_left
       ·simp only [Act.put, List.setIfInBounds_toArray, List.set_cons_zero, List.set_cons_succ, i64_w, i32_w]
        rfl
       refine done_ (by kernel_rfl) ?_
       clear hHeld
       go_wp2
       refine start_ (n := 17) (S := fun w' => w'.cell? ⟨gb, 1, none⟩ = some (.slice (some ⟨g, 0, none⟩) n c) ∧ w'.cell? ⟨g, s2'.toNat, none⟩ = some (.slice A3 row3.length c3) ∧ w'.cell? ⟨wr.heap.size, 0, none⟩ = some (.int .i64 t.f0) ∧ w'.cell? ⟨wr.heap.size, 1, none⟩ = some (.int .i64 t.f1)) (ds := [16]) #[false, false, false, false, false, false, false, false, false, false, false, false, false, false, false, false, false] (by kernel_rfl) rfl rfl ⟨((blk_cell ((HTK.out.below HSA.out).box HX0.out) 1).trans rfl), pw_cell_below HSA.out HX3.out, (blk_cell HBT.out 0).trans rfl, (blk_cell HBT.out 1).trans rfl⟩ (fun hHeld => ?_)
       have nHSA := Aside0.mk (below_then HSA.out HSA.out.size (below_drew1 (Below.refl _ _)))
       have nHBT := Aside0.mk (blk_below HBT.out (below_drew1 (Below.refl _ _)))
       clear HSA
       clear HBT
       generalize World.drew wg = wh at nHSA nHBT hHeld ⊢
       have HSA := nHSA
       clear nHSA
       have HBT := nHBT
       clear nHBT
       refine pure_ (i := 0) (N := some 82) (v := ?_) (a' := ?_) #[true, false, false, false, false, false, false, false, false, false, false, false, false, false, false, false, false] rfl rfl (by kernel_rfl) (fun _ _ _ h => h) (Or.inl ⟨by rfl, ?_⟩) ?_ ?_
       rotate_left
       ·intro w'
        go_simp
        with_reducible rfl
       rotate_left
       ·simp only [Act.put, List.setIfInBounds_toArray, List.set_cons_zero, List.set_cons_succ, i64_w, i32_w]
        rfl
       refine pure_ (i := 1) (N := some 83) (v := ?_) (a' := ?_) #[true, true, false, false, false, false, false, false, false, false, false, false, false, false, false, false, false] rfl rfl (by kernel_rfl) (fun _ _ _ h => h) (Or.inl ⟨by rfl, ?_⟩) ?_ ?_
       rotate_left
       ·intro w'
        go_simp
        with_reducible rfl
       rotate_left
       ·simp only [Act.put, List.setIfInBounds_toArray, List.set_cons_zero, List.set_cons_succ, i64_w, i32_w]
        rfl
       refine pure_ (i := 2) (N := some 84) (v := ?_) (a' := ?_) #[true, true, true, false, false, false, false, false, false, false, false, false, false, false, false, false, false] rfl rfl (by kernel_rfl) (fun _ _ _ h => h) (Or.inl ⟨by rfl, ?_⟩) ?_ ?_
       rotate_left
       ·intro w'
        go_simp
        with_reducible rfl
       rotate_left
       ·simp only [Act.put, List.setIfInBounds_toArray, List.set_cons_zero, List.set_cons_succ, i64_w, i32_w]
        rfl
       refine take_ (i := 3) (N := some 85) (v := ?_) (a' := ?_) #[true, true, true, true, false, false, false, false, false, false, false, false, false, false, false, false, false] rfl rfl (by kernel_rfl) (fun _ _ _ h => h) (Or.inl ⟨by rfl, ?_⟩) hHeld ?_ ?_
       rotate_left
       ·rintro w' ⟨s0, s1, s2_, s3⟩
        go_simp
        with_reducible rfl
       rotate_left
       ·simp only [Act.put, List.setIfInBounds_toArray, List.set_cons_zero, List.set_cons_succ, i64_w, i32_w]
        rfl
       refine pure_ (i := 4) (N := some 86) (v := ?_) (a' := ?_) #[true, true, true, true, true, false, false, false, false, false, false, false, false, false, false, false, false] rfl rfl (by kernel_rfl) (fun _ _ _ h => h) (Or.inl ⟨by rfl, ?_⟩) ?_ ?_
       rotate_left
       ·intro w'
        go_simp
        with_reducible rfl
       rotate_left
       ·simp only [Act.put, List.setIfInBounds_toArray, List.set_cons_zero, List.set_cons_succ, i64_w, i32_w]
        rfl
       refine pure_ (i := 5) (N := some 87) (v := ?_) (a' := ?_) #[true, true, true, true, true, true, false, false, false, false, false, false, false, false, false, false, false] rfl rfl (by kernel_rfl) (fun _ _ _ h => h) (Or.inl ⟨by rfl, ?_⟩) ?_ ?_
       rotate_left
       ·intro w'
        go_simp
        with_reducible rfl
       rotate_left
       ·simp only [Act.put, List.setIfInBounds_toArray, List.set_cons_zero, List.set_cons_succ, i64_w, i32_w]
        rfl
       refine pure_ (i := 6) (N := some 88) (v := ?_) (a' := ?_) #[true, true, true, true, true, true, true, false, false, false, false, false, false, false, false, false, false] rfl rfl (by kernel_rfl) (fun _ _ _ h => h) (Or.inl ⟨by rfl, ?_⟩) ?_ ?_
       rotate_left
       ·intro w'
        go_simp
        with_reducible rfl
       rotate_left
       ·simp only [Act.put, List.setIfInBounds_toArray, List.set_cons_zero, List.set_cons_succ, i64_w, i32_w]
        rfl
       refine pure_ (i := 7) (N := some 89) (v := ?_) (a' := ?_) #[true, true, true, true, true, true, true, true, false, false, false, false, false, false, false, false, false] rfl rfl (by kernel_rfl) (fun _ _ _ h => h) (Or.inl ⟨by rfl, ?_⟩) ?_ ?_
       rotate_left
       ·intro w'
        go_simp
        with_reducible rfl
       rotate_left
       ·simp only [Act.put, List.setIfInBounds_toArray, List.set_cons_zero, List.set_cons_succ, i64_w, i32_w]
        rfl
       refine take_ (i := 8) (N := some 90) (v := ?_) (a' := ?_) #[true, true, true, true, true, true, true, true, true, false, false, false, false, false, false, false, false] rfl rfl (by kernel_rfl) (fun _ _ _ h => h) (Or.inl ⟨by rfl, ?_⟩) hHeld ?_ ?_
       rotate_left
       ·rintro w' ⟨s0, s1, s2_, s3⟩
        go_simp
        with_reducible rfl
       rotate_left
       ·simp only [Act.put, List.setIfInBounds_toArray, List.set_cons_zero, List.set_cons_succ, i64_w, i32_w]
        rfl
       refine pure_ (i := 9) (N := some 91) (v := ?_) (a' := ?_) #[true, true, true, true, true, true, true, true, true, true, false, false, false, false, false, false, false] rfl rfl (by kernel_rfl) (fun _ _ _ h => h) (Or.inl ⟨by rfl, ?_⟩) ?_ ?_
       rotate_left
       ·intro w'
        go_simp
        with_reducible rfl
       rotate_left
       ·simp only [Act.put, List.setIfInBounds_toArray, List.set_cons_zero, List.set_cons_succ, i64_w, i32_w]
        rfl
       refine pure_ (i := 10) (N := some 92) (v := ?_) (a' := ?_) #[true, true, true, true, true, true, true, true, true, true, true, false, false, false, false, false, false] rfl rfl (by kernel_rfl) (fun _ _ _ h => h) (Or.inl ⟨by rfl, ?_⟩) ?_ ?_
       rotate_left
       ·intro w'
        go_simp
        with_reducible rfl
       rotate_left
       ·simp only [Act.put, List.setIfInBounds_toArray, List.set_cons_zero, List.set_cons_succ, i64_w, i32_w]
        rfl
       refine take_ (i := 11) (N := some 93) (v := ?_) (a' := ?_) #[true, true, true, true, true, true, true, true, true, true, true, true, false, false, false, false, false] rfl rfl (by kernel_rfl) (fun _ _ _ h => h) (Or.inl ⟨by rfl, ?_⟩) hHeld ?_ ?_
       rotate_left
       ·rintro w' ⟨s0, s1, s2_, s3⟩
        go_simp
        with_reducible rfl
       rotate_left
       ·simp only [Act.put, List.setIfInBounds_toArray, List.set_cons_zero, List.set_cons_succ, i64_w, i32_w]
        rfl
       refine take_ (i := 12) (N := some 94) (v := ?_) (a' := ?_) #[true, true, true, true, true, true, true, true, true, true, true, true, true, false, false, false, false] rfl rfl (by kernel_rfl) (fun _ _ _ h => h) (Or.inl ⟨by rfl, ?_⟩) hHeld ?_ ?_
       rotate_left
       ·rintro w' ⟨s0, s1, s2_, s3⟩
        go_simp
        with_reducible rfl
       rotate_left
       ·simp only [Act.put, List.setIfInBounds_toArray, List.set_cons_zero, List.set_cons_succ, i64_w, i32_w]
        rfl
       refine one_ (i := 13) (N := some 95) #[true, true, true, true, true, true, true, true, true, true, true, true, true, true, false, false, false] rfl rfl (by kernel_rfl) (by decide) (fun K hK => ?_)
       refine Kd.R_lit_step k45 (w0 := wh) wh.heap.size 45 (by rfl) (N := 95) rfl (xs := [t]) (inner := [.int .i64 t.f0, .int .i64 t.f1]) (ok := fun _ => True) (okp := fun _ => True) ?hr (Reps.snoc (Reps.none _ _) (k45_mkM _ _ _ t) rfl) (fun _ hk => hk) trivial (Below.refl _ _) (Nat.le_refl _) (by simp) ?_
       case hr => first | (go_simp; done) | (go_simp; rfl)
       intro v4 w4 ho4 hb4 _ _
       obtain ⟨A4, c4, rfl, hc4, hC4⟩ := Kd.R_reads ho4
       have HC4 := Aside0.mk hC4
       have nHSA := Aside0.mk (below_then HSA.out HSA.out.size hb4)
       have nHBT := Aside0.mk (blk_below HBT.out hb4)
       clear HSA
       clear HBT
       have HSA := nHSA
       clear nHSA
       have HBT := nHBT
       clear nHBT
       clear ho4 hb4 hC4 hc4
       refine hK.out _ _ ⟨((blk_cell ((HTK.out.below HSA.out).box HX0.out) 1).trans rfl), pw_cell_below HSA.out HX3.out, (blk_cell HBT.out 0).trans rfl, (blk_cell HBT.out 1).trans rfl⟩ (fun hHeld => ?_)
       clear hK K
       refine norm_ (a' := ?_) ?_ ?_
       rotate_left
       ·show Act.put _ (some 95) _ = _
        simp only [Act.put, List.setIfInBounds_toArray, List.set_cons_zero, List.set_cons_succ, i64_w, i32_w]
        rfl
       refine one_ (i := 14) (N := some 96) #[true, true, true, true, true, true, true, true, true, true, true, true, true, true, true, false, false] rfl rfl (by kernel_rfl) (by decide) (fun K hK => ?_)
       have HT3_ := Aside0.mk (HTK.out.below HSA.out)
       refine Kd.R_append_rows_step k45 (w0 := w0) w0.heap.size (by rfl) (.tmp 93) (.tmp 95) 48 45 (.agg #[(.int .i64 0), (.int .i64 0)]) 16 rfl Try.underlying48 info45 rfl (by decide) (by omega) (.slice A3 row3.length c3) row3 [t] A4 1 c4 (fun k => oki k ∨ wr.heap.size ≤ k) (fun _ => False) rfl rfl (Kd.R_mono (Kd.R_below HR3.out HSA.out) (fun _ hk => .inl hk)) HC4.out (fun _ _ h => h) (fun _ h => h.elim) (fun k hk => .inr (Nat.le_trans HSA.out.size hk)) HT3_.out.B HT3_.out.B.size (by have := HSB2.out.2.2; omega) ?_
       intro v5 w5 ho5 hb5 hg5 _
       have HO5 := Aside0.mk ho5
       have HB5 := Aside0.mk hb5
       have HOWN := Aside0.mk (fun (k : Nat) (hk : (Value.slice A3 row3.length c3).ownBlock = some k) => (⟨HR3.out.1 k hk, Kd.R_lt HR3.out k hk⟩ : oki k ∧ k < wr.heap.size))
       have HK5 : Aside0 (Kept wr w5 oki) := ⟨(Kept.of_below HSA.out oki).then_ (Kept.of_grown (S := oki) hg5 (Kept.refl _ _) (fun k hk => .inl (HOWN.out k hk).1)) (fun k hk => .inl hk)⟩
       have HXN := Aside0.mk (cell_kept HX3.out HK5.out HOG.out)
       have HBN := Aside0.mk (show w5.heap[wr.heap.size]? = some (.cells #[.int .i64 t.f0, .int .i64 t.f1] 45 (0, 0)) from (hg5.block _ (blk_lt HBT.out) (fun he => by have := (HOWN.out _ he.symm).2; omega)).trans HBT.out)
       have HBX5 := Aside0.mk (show w5.cell? ⟨gb, 1, none⟩ = some (.slice (some ⟨g, 0, none⟩) n c) from by
        have h1 := HT3_.out.box HX0.out
        have h2 : w5.heap[gb]? = some (.cells #[.int .i64 now, .slice (some ⟨g, 0, none⟩) n c] 27 (0, 0)) := (hg5.block _ (blk_lt h1) (fun he => by
         have h3 := Kd.R_typed (Kd.R_below HR3.out HSA.out) _ he.symm
         obtain ⟨cells, h4⟩ := h3
         rw [h1] at h4
         injection h4 with h4
         injection h4 with _ h4
         exact absurd h4 (by decide))).trans h1
        exact (blk_cell h2 1).trans rfl)
       obtain ⟨A5, c5, hv5⟩ := Kd.R_slice ho5
       obtain ⟨n5, hn5⟩ : ∃ q, q = (row3 ++ [t]).length := ⟨_, rfl⟩
       rw [← hn5] at hv5
       subst hv5
       clear hn5 ho5 hb5 hg5
       refine hK.out _ _ ⟨HBX5.out, HXN.out, (blk_cell HBN.out 0).trans rfl, (blk_cell HBN.out 1).trans rfl⟩ (fun hHeld => ?_)
       clear hK K
       refine norm_ (a' := ?_) ?_ ?_
       rotate_left
       ·show Act.put _ (some 96) _ = _
        simp only [Act.put, List.setIfInBounds_toArray, List.set_cons_zero, List.set_cons_succ, i64_w, i32_w]
        rfl
       refine pure_ (i := 15) (N := some 97) (v := ?_) (a' := ?_) #[true, true, true, true, true, true, true, true, true, true, true, true, true, true, true, true, false] rfl rfl (by kernel_rfl) (fun _ _ _ h => h) (Or.inl ⟨by rfl, ?_⟩) ?_ ?_
       rotate_left
       ·intro w'
        go_simp
        with_reducible rfl
       rotate_left
       ·simp only [Act.put, List.setIfInBounds_toArray, List.set_cons_zero, List.set_cons_succ, i64_w, i32_w]
        rfl
       refine last_ (i := 16) (N := none) #[true, true, true, true, true, true, true, true, true, true, true, true, true, true, true, true, true] rfl rfl (by kernel_rfl) (by decide) (fun K hK => ?_)
       have hs0_ := HXN.out
       have hf0_ : w5.frozen? ⟨g, s2'.toNat, none⟩ = false := by have h2 := HF3.out; unfold World.frozen? at h2 ⊢; rw [HK5.out.2 g HGW.out HOG.out]; exact h2
       refine skip_ (w1 := ?_) (by rfl) rfl ?_ ?_
       rotate_left
       ·go_simp
        rfl
       clear hs0_ hf0_
       have HTN := Aside0.mk (HBK.out HK5.out HO5.out (fun _ hk => hk) HB5.out)
       refine hK.out _ _ ?_
       clear hK K
       refine done_ (by kernel_rfl) ?_
       clear hHeld
       go_wp2
       go_roundg k2
       case measure => omega
       case rel =>
        refine ⟨wrap64 (x + 1), _, _, d2, _, rfl, rfl, rfl, ⟨?_, ?_⟩, HTN, ⟨?_⟩⟩
        ·rw [HW2.out]; have := HJ.out.1; omega
        ·rw [HW2.out]; have := HJ.out; omega
        ·rw [HW2.out, show (x + 1).toNat = x.toNat + 1 by have := HJ.out.1; omega]; exact HIN.out
     ·have hltb : decide (x < (row.length : Int)) = false := decide_eq_false hlt
      have HJ2 := Aside0.mk hlt
      clear hlt
      have hI := HIN.out
      rw [List.drop_of_length_le (by have := HJ2.out; have := HJ.out.1; omega)] at hI
      simp only [tkPut, Option.some.injEq, Prod.mk.injEq] at hI
      obtain ⟨rfl, rfl, rfl⟩ := hI
      go_wp2
      go_roundg k1
      case measure => omega
      case rel => exact ⟨m, wrap64 (lev - 1), _, _, _, _, rfl, rfl, rfl, ⟨HDEC.out, by have := HM.out; omega, by have := HM.out; omega⟩, ⟨HTK.out.forget⟩, HF2⟩

end Go.Proofs.Ytgmjfdehladelaa.PFnExactAdvanceWheel
