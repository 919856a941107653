-- written by xprint.py (a program of this session's, over the kit's print): printed functions, and some by hand
import Derived.Test.YtpgegjbnnbkhiaaPFnExactCriticalOfx0
import Derived.Test.YtpgegjbnnbkhiaaPFnExactCriticalOfx7
import Derived.Test.YtpgegjbnnbkhiaaPFnExactCriticalOfx8
namespace Go.Proofs.Ytpgegjbnnbkhiaa.PFnExactCriticalOf
open Go.RowKit Go.Proofs.YtpgegjbnnbkhiaaW.PrintWords Go.Proofs.YtpgegjbnnbkhiaaW.PrintLast Go.Proofs.YtpgegjbnnbkhiaaW.PrintMore
attribute [local go_sem] max2_int min2_int max_two min_two max_three min_three max_four min_four   -- for this text's walks alone
set_option linter.unusedVariables false
set_option linter.unusedSimpArgs false

/-! ### impl_tails: function 57, by hand -/
attribute [local go_sem] Oper.semAt_some
def tlNeed (x : Int) (out : List Int) (n : Int) : List Int := out.set n.toNat (mx (rd out n) (rd out x))
def tlStep (l : List S53) (out : List Int) (x : Int) : List Int := (rd_T53 l x).f1.foldl (tlNeed x) (out.set x.toNat (wrap64 (rd out x + (rd_T53 l x).f0)))
def tlOk (l : List S53) (x : Int) : Prop := 0 ≤ x ∧ x < l.length ∧ ∀ n ∈ (rd_T53 l x).f1, 0 ≤ n ∧ n < l.length
instance (l : List S53) (x : Int) : Decidable (tlOk l x) := by unfold tlOk; infer_instance
def impl_tails.f (k : Nat) (l : List S53) : Option (List Int) := (impl_order.f k l).bind fun O => if l.length ≤ 1000000 ∧ ∀ x ∈ O, tlOk l x then some (O.reverse.foldl (tlStep l) (List.replicate l.length 0)) else none
theorem impl_tails.mono : ∀ a0 k, LeO (impl_tails.f k a0) (impl_tails.f (k + 1) a0) := by
 intro a0 k
 unfold impl_tails.f
 exact LeO.bind (impl_order.mono _ _) (fun _ => LeO.refl _)
theorem backward_in (A : Option Addr) (len c : Nat) (w : World) : CallsIn Fence.wide 2 Try.prog 55 #[.slice A len c] w fun e w' => e = .returned (.func (.func 69) #[] #[.pointer (some ⟨w.heap.size, 0, none⟩)]) ∧ w' = w.alloc (.cells #[.slice A len c] 29) := by
 refine callsIn_of_wp Try.func55 rfl trivial ?_ rfl
 simp only [Try.ntmps55, List.size_toArray, List.length_cons, List.length_nil, Nat.reduceAdd, Nat.reduceSub, Array.replicate_succ, Array.replicate_zero, List.push_toArray, List.append_toArray, List.nil_append, List.cons_append]
 gi_wp2
 go_ret
 exact ⟨rfl, rfl⟩
def bwList (l0 : List S53) (O : List Int) (h : ∀ x ∈ O, tlOk l0 x) : List { p : Int × Int // tlOk l0 p.2 } :=
 List.ofFn (fun j : Fin O.length => ⟨(((O.length - 1 - j.1 : Nat) : Int), rd O ((O.length - 1 - j.1 : Nat) : Int)), h _ (by unfold rd; rw [Int.toNat_natCast, List.getD_eq_getElem?_getD, List.getElem?_eq_getElem (by have := j.2; omega)]; exact List.getElem_mem _)⟩)
theorem bwList_length (l0 : List S53) (O : List Int) (h : ∀ x ∈ O, tlOk l0 x) : (bwList l0 O h).length = O.length := by simp [bwList]
theorem bwList_get (l0 : List S53) (O : List Int) (h : ∀ x ∈ O, tlOk l0 x) (j : Nat) (hj : j < (bwList l0 O h).length) : (fun x : { p : Int × Int // tlOk l0 p.2 } => (#[.int .i64 x.1.1, .int .i64 x.1.2] : Array Value)) ((bwList l0 O h)[j]'hj) = #[.int .i64 ((O.length - 1 - j : Nat) : Int), .int .i64 (rd O ((O.length - 1 - j : Nat) : Int))] := by
 simp [bwList]
theorem bwList_map (l0 : List S53) (O : List Int) (h : ∀ x ∈ O, tlOk l0 x) : (bwList l0 O h).map (fun x => x.1.2) = O.reverse := by
 apply List.ext_getElem
 ·simp [bwList]
 ·intro i h1 h2
  simp only [List.length_reverse] at h2
  simp only [bwList, List.map_ofFn, List.getElem_ofFn, Function.comp, List.getElem_reverse]
  unfold rd
  rw [Int.toNat_natCast, List.getD_eq_getElem?_getD, List.getElem?_eq_getElem (by omega)]; rfl
theorem made_ints (m : Nat) : (madeCells #[Value.int .i64 0] m).toList = encs (Value.int .i64) (List.replicate m 0) := by
 apply List.ext_getElem
 ·simp [encs, madeCells]
 ·intro i h1 h2
  simp [encs, madeCells, Nat.mod_one]
theorem R_block_ints {g base m : Nat} {W : World} (h : W.heap[g]? = some (.cells (madeCells #[.int .i64 0] m) 3 (0, 0))) (hb : base ≤ g) (hm : m ≤ 9223372036854775807) : Kd.R (Kd.int .i64) 3 W base (fun k => k = g) (.slice (some ⟨g, 0, none⟩) m m) (List.replicate m 0) := by
 have h2 := R_block (enc := Value.int .i64) (h1 := fun _ => rfl) (ok := fun k => k = g) (xs := List.replicate m 0) h hb rfl (by rw [List.length_replicate]; exact hm) (made_ints m)
 rw [List.length_replicate] at h2
 exact h2
set_option maxHeartbeats 8000000 in
set_option maxRecDepth 100000 in
theorem impl_tails.calls (k : Nat) (A0 : Option Addr) (c0 : Nat) (l0 : List (S53)) (r : List Int) (w : World) (hr0 : Kd.C k53 w A0 l0.length l0) (hc0 : l0.length ≤ c0) (h : impl_tails.f k l0 = some r) :
  Calls Try.prog 57 #[.slice A0 l0.length c0] w fun e w' => ∃ v0_ : Value, e = .returned (v0_) ∧ Kd.R (Kd.int .i64) 3 w' w.heap.size (fun _ => True) v0_ r ∧ Below w.heap.size w w' := by
 obtain ⟨O, hO, h⟩ := Option.bind_eq_some_iff.1 h
 split at h
 case isFalse => cases h
 rename_i hok
 obtain ⟨hl, hok⟩ := hok
 obtain rfl := Option.some.inj h
 have hu29 := Try.underlying29
 have hu53 := Try.underlying53
 have HR0 := Aside0.mk hr0
 have HC0 := Aside0.mk hc0
 have HO := Aside0.mk hO
 have HOK := Aside0.mk hok
 have HL := Aside0.mk hl
 have hmk := print_make_of (P := Try.prog) 29 3 (.int .i64 0) 8 hu29 rfl rfl (by decide) l0.length (by omega)
 clear hr0 hc0 h hok hO hl
 refine (callsIn_wide (n := 3)).1 ?_
 refine callsIn_of_wp_marks Try.func57 rfl trivial ?_ rfl
 simp only [Try.ntmps57, List.size_toArray, List.length_cons, List.length_nil, Nat.reduceAdd, Nat.reduceSub, Array.replicate_succ, Array.replicate_zero, List.push_toArray, List.append_toArray, List.nil_append, List.cons_append]
 have hA0 := heap_alloc_new w (.cells #[.slice A0 l0.length c0] 25)
 have hA1 := heap_alloc_new (w.alloc (.cells #[.slice A0 l0.length c0] 25)) (.cells (madeCells #[.int .i64 0] l0.length) 3)
 have hA2 := heap_alloc_new ((w.alloc (.cells #[.slice A0 l0.length c0] 25)).alloc (.cells (madeCells #[.int .i64 0] l0.length) 3)) (.cells #[.slice (some ⟨w.heap.size + 1, 0, none⟩) l0.length l0.length] 29)
 rw [World.size_alloc] at hA1
 rw [World.size_alloc, World.size_alloc] at hA2
 have HA0 := Aside0.mk (blk_alloc (blk_alloc hA0 (.cells (madeCells #[.int .i64 0] l0.length) 3)) (.cells #[.slice (some ⟨w.heap.size + 1, 0, none⟩) l0.length l0.length] 29))
 have HA1 := Aside0.mk (blk_alloc hA1 (.cells #[.slice (some ⟨w.heap.size + 1, 0, none⟩) l0.length l0.length] 29))
 have HA2 := Aside0.mk hA2
 clear hA0 hA1 hA2
 gi_wp2_with fail
 refine ⟨trivial, ?_⟩
 refine (callsIn_wide.2 (impl_order.calls k _ _ l0 O _ (Kd.C_below HR0.out (by repeat (first | exact Below.refl _ _ | apply below_alloc | apply pw_below_drewN | apply below_drew1))) HC0.out HO.out)).mono ?_
 rintro e w1 ⟨v0, rfl, hr, hb⟩
 obtain ⟨A1, c1, rfl, hlc, hC⟩ := Kd.R_reads hr
 have hs0 := hb.size
 simp only [World.size_alloc] at hs0
 have HS0 := Aside0.mk hs0
 have HRO := Aside0.mk hr
 have BL := Aside0.mk (blk_below HA0.out hb)
 have BD := Aside0.mk (blk_below HA1.out hb)
 have BB := Aside0.mk (blk_below HA2.out hb)
 have HB := Aside0.mk (bel2 (show Below w.heap.size w _ from (by repeat (first | exact Below.refl _ _ | apply below_alloc | apply pw_below_drewN | apply below_drew1))) hb)
 clear hs0 hr hb hlc hC HA0 HA1 HA2
 gi_wp2_with fail
 refine ⟨trivial, ?_⟩
 refine (backward_in A1 O.length c1 w1).mono ?_
 rintro e w2 ⟨rfl, rfl⟩
 gi_wp2_with fail
 refine wpIn_rangeFunc_ownG (α := { p : Int × Int // tlOk l0 p.2 }) (F := Fence.wide) (n := 3) rfl (by decide) (gf := 69) (lb := #[.pointer (some ⟨w1.heap.size, 0, none⟩)]) rfl trivial (enters_ Try.func69 (by kernel_rfl) rfl)
  (encs := fun x => #[.int .i64 x.1.1, .int .i64 x.1.2]) (Kp := KpB (w1.heap.size + 1) (w.heap.size + 1)) (S := fun ys => ys.map (fun x => x.1.2) = O.reverse) (Sp := fun _ => True) (N := O.length) ?seq (fun h k => KpB.trans h k) (fun W l o o' hl _ _ _ => KpB.putObj W l o' (by simpa using hl)) (Below.refl _ _) (fun _ => rfl)
  (fun pre W => (W.heap[w.heap.size]? = some (.cells #[.slice A0 l0.length c0] 25 (0, 0)) ∧ W.heap[w.heap.size + 1 + 1]? = some (.cells #[.slice (some ⟨w.heap.size + 1, 0, none⟩) l0.length l0.length] 29 (0, 0)) ∧ Kd.R (Kd.int .i64) 3 W w.heap.size (fun k => k = w.heap.size + 1) (.slice (some ⟨w.heap.size + 1, 0, none⟩) l0.length l0.length) (pre.foldl (fun t x => tlStep l0 t x.1.2) (List.replicate l0.length 0))) ∧ Below w.heap.size w W)
  (fun _ _ _ => False) ?own (fun _ _ _ _ _ hs _ _ => hs) ?h0 ?a1 ?assign ?body ?done ?stop
 case assign =>
  intro l x W K hK
  gi_wp2
  exact hK
 case seq =>
  intro l J Jx W hW _ _ hY h0
  refine (bw1_in (fun x : { p : Int × Int // tlOk l0 p.2 } => #[.int .i64 x.1.1, .int .i64 x.1.2]) (bwList l0 O HOK.out) (w1.heap.size + 1) (w.heap.size + 1) l w1.heap.size O.length c1 A1 O rfl ⟨by omega, by have := HS0.out; omega⟩ (bwList_length _ _ _) (bwList_get _ _ _) J Jx hY W _ (blk_below (heap_alloc_new w1 _) hW) (Kd.R_below (Kd.R_alloc (Kd.R_mono (Kd.R_bound HRO.out) (fun k hk => ?_)) _) hW) h0).mono ?_
  ·have h1 := hk.2.1
   have h2 := hk.2.2.1
   simp only [World.size_alloc] at h1
   exact ⟨by omega, by omega⟩
  ·rintro e W' ⟨he, ⟨zs, rfl, hj⟩ | ⟨pre, _, hj⟩⟩
   ·exact ⟨he, .inl ⟨_, bwList_map _ _ _, hj⟩⟩
   ·exact ⟨he, .inr ⟨_, trivial, hj⟩⟩
 case own =>
  refine OwnFrom.and (fun pre W W' row hs hg hr => ?_) (ownFrom_below (Nat.le_refl _) (by have := HS0.out; simp; omega))
  have hne : ∀ k : Nat, k ≤ w1.heap.size → some k ≠ row := fun k hk e => by
   have := (hr k e.symm).1
   simp at this
   omega
  have hs0 := HS0.out
  exact ⟨(hg.block _ (blk_lt hs.1) (hne _ (by omega))).trans hs.1, (hg.block _ (blk_lt hs.2.1) (hne _ (by omega))).trans hs.2.1, Kd.R_grown hs.2.2 hg (fun k hk => by subst hk; exact hne _ (by omega))⟩
 case h0 =>
  exact ⟨⟨blk_alloc BL.out _, blk_alloc BB.out _, Kd.R_alloc (R_block_ints BD.out (by omega) (by have := HL.out; omega)) _⟩, below_alloc HB.out _⟩
 case body =>
  rintro l pre x W ⟨⟨b1, b2, b3⟩, hB⟩ _
  obtain ⟨t, ht⟩ : ∃ t, t = pre.foldl (fun t x => tlStep l0 t x.1.2) (List.replicate l0.length 0) := ⟨_, rfl⟩
  rw [← ht] at b3
  obtain ⟨xs, hxs⟩ : ∃ xs, xs = pre ++ [x] := ⟨_, rfl⟩
  rw [← hxs]
  have hfol : xs.foldl (fun t x => tlStep l0 t x.1.2) (List.replicate l0.length 0) = tlStep l0 t x.1.2 := by rw [hxs, List.foldl_append, ← ht]; rfl
  clear hxs ht
  obtain ⟨⟨xi, xv⟩, hx0, hx1, hx2⟩ := x
  simp only at hx0 hx1 hx2 hfol
  dsimp only
  obtain ⟨vn, rfl⟩ := Int.eq_ofNat_of_zero_le hx0
  have HFOL := Aside0.mk hfol
  have HX2 := Aside0.mk hx2
  clear hfol hx0 hx2
  have hmo : Try.prog.follows .mixedOrders = true := by kernel_rfl
  have hJ : TJ (Kd.int .i64) 3 w.heap.size (w.heap.size + 1 + 1) (w.heap.size + 1) (w1.heap.size + 1) (w1.alloc (.cells #[.slice A1 O.length c1] 29)).heap.size l0.length (.cells #[.slice A0 l0.length c0] 25 (0, 0)) (.cells #[.slice (some ⟨w.heap.size + 1, 0, none⟩) l0.length l0.length] 29 (0, 0)) w W W t := ⟨b1, b2, b3, hB, KpB.refl _ _ _, KeepsFrom.refl _ _⟩
  have HJ := Aside0.mk hJ
  clear hJ b1 b2 b3 hB
  have zL : W.cell? ⟨w.heap.size, 0, none⟩ = some (.slice A0 l0.length c0) := (blk_cell HJ.out.b1 0).trans rfl
  have zB : W.cell? ⟨w.heap.size + 1 + 1, 0, none⟩ = some (.slice (some ⟨w.heap.size + 1, 0, none⟩) l0.length l0.length) := (blk_cell HJ.out.b2 0).trans rfl
  obtain ⟨ad, A2, c2, ek, hk0, hk1, hkc, hkC⟩ := at_T53 HR0.out (vn : Int) (by omega) hx1
  cases ek
  rw [Int.toNat_natCast] at hk0 hk1
  obtain ⟨q, hq⟩ : ∃ q, q = rd_T53 l0 (vn : Int) := ⟨_, rfl⟩
  rw [← hq] at hk0 hk1 hkc hkC
  have HK0 := Aside0.mk hk0
  have HK1 := Aside0.mk hk1
  clear hk0 hk1
  have hk0 := pw_cell_below HJ.out.bel HK0.out
  have hk1 := pw_cell_below HJ.out.bel HK1.out
  obtain ⟨hc, hf⟩ := Kd.R_celln 0 HJ.out.b3 (vn : Int) (by omega) hx1
  rw [Int.toNat_natCast] at hc hf
  obtain ⟨y, hy⟩ : ∃ y, y = rd t (vn : Int) := ⟨_, rfl⟩
  have hc1 : W.cell? ⟨w.heap.size + 1, vn, none⟩ = some (.int .i64 y) := by rw [hy]; exact hc
  clear hc
  have p1 : vn < l0.length := by omega
  have HQ := Aside0.mk hq
  have HY := Aside0.mk hy
  have HKC := Aside0.mk hkC
  clear hq hy hkC hx1
  gi_wp2
  refine startIn_ (n := 12) (S := fun w' => w'.cell? ⟨w.heap.size + 1 + 1, 0, none⟩ = some (.slice (some ⟨w.heap.size + 1, 0, none⟩) l0.length l0.length) ∧ w'.cell? ⟨w.heap.size, 0, none⟩ = some (.slice (some ad) l0.length c0) ∧ w'.cell? ⟨w.heap.size + 1, vn, none⟩ = some (.int .i64 y) ∧ w'.cell? (ad.add (vn * 2)) = some (.int .i64 q.f0)) (ds := [11]) #[false, false, false, false, false, false, false, false, false, false, false, false] (by kernel_rfl) rfl rfl (by decide) ⟨zB, zL, hc1, hk0⟩ (fun hHeld => ?_)
  refine pure_ (i := 1) (N := some 17) (v := ?_) (a' := ?_) #[false, true, false, false, false, false, false, false, false, false, false, false] rfl rfl (by kernel_rfl) (fun _ _ _ h => h) (Or.inl ⟨by rfl, ?_⟩) ?_ ?_
  rotate_left
  ·intro w'
   go_simp
   with_reducible rfl
  rotate_left
  ·simp only [Act.put, List.setIfInBounds_toArray, List.set_cons_zero, List.set_cons_succ, i64_w, i32_w]
   rfl
  refine pure_ (i := 5) (N := some 21) (v := ?_) (a' := ?_) #[false, true, false, false, false, true, false, false, false, false, false, false] rfl rfl (by kernel_rfl) (fun _ _ _ h => h) (Or.inl ⟨by rfl, ?_⟩) ?_ ?_
  rotate_left
  ·intro w'
   go_simp
   with_reducible rfl
  rotate_left
  ·simp only [Act.put, List.setIfInBounds_toArray, List.set_cons_zero, List.set_cons_succ, i64_w, i32_w]
   rfl
  refine take_ (i := 0) (N := some 16) (v := ?_) (a' := ?_) #[true, true, false, false, false, true, false, false, false, false, false, false] rfl rfl (by kernel_rfl) (fun _ _ _ h => h) (Or.inl ⟨by rfl, ?_⟩) hHeld ?_ ?_
  rotate_left
  ·rintro w' ⟨s0, s1, s2, s3⟩
   go_simp
   with_reducible rfl
  rotate_left
  ·simp only [Act.put, List.setIfInBounds_toArray, List.set_cons_zero, List.set_cons_succ, i64_w, i32_w]
   rfl
  refine pure_ (i := 2) (N := some 18) (v := ?_) (a' := ?_) #[true, true, true, false, false, true, false, false, false, false, false, false] rfl rfl (by kernel_rfl) (fun _ _ _ h => h) (Or.inl ⟨by rfl, ?_⟩) ?_ ?_
  rotate_left
  ·intro w'
   go_simp
   with_reducible rfl
  rotate_left
  ·simp only [Act.put, List.setIfInBounds_toArray, List.set_cons_zero, List.set_cons_succ, i64_w, i32_w]
   rfl
  refine take_ (i := 3) (N := some 19) (v := ?_) (a' := ?_) #[true, true, true, true, false, true, false, false, false, false, false, false] rfl rfl (by kernel_rfl) (fun _ _ _ h => h) (Or.inl ⟨by rfl, ?_⟩) hHeld ?_ ?_
  rotate_left
  ·rintro w' ⟨s0, s1, s2, s3⟩
   go_simp
   with_reducible rfl
  rotate_left
  ·simp only [Act.put, List.setIfInBounds_toArray, List.set_cons_zero, List.set_cons_succ, i64_w, i32_w]
   rfl
  refine take_ (i := 4) (N := some 20) (v := ?_) (a' := ?_) #[true, true, true, true, true, true, false, false, false, false, false, false] rfl rfl (by kernel_rfl) (fun _ _ _ h => h) (Or.inl ⟨by rfl, ?_⟩) hHeld ?_ ?_
  rotate_left
  ·rintro w' ⟨s0, s1, s2, s3⟩
   go_simp
   with_reducible rfl
  rotate_left
  ·simp only [Act.put, List.setIfInBounds_toArray, List.set_cons_zero, List.set_cons_succ, i64_w, i32_w]
   rfl
  refine pure_ (i := 6) (N := some 22) (v := ?_) (a' := ?_) #[true, true, true, true, true, true, true, false, false, false, false, false] rfl rfl (by kernel_rfl) (fun _ _ _ h => h) (Or.inl ⟨by rfl, ?_⟩) ?_ ?_
  rotate_left
  ·intro w'
   go_simp
   with_reducible rfl
  rotate_left
  ·simp only [Act.put, List.setIfInBounds_toArray, List.set_cons_zero, List.set_cons_succ, i64_w, i32_w]
   rfl
  refine pure_ (i := 7) (N := some 23) (v := ?_) (a' := ?_) #[true, true, true, true, true, true, true, true, false, false, false, false] rfl rfl (by kernel_rfl) (fun _ _ _ h => h) (Or.inl ⟨by rfl, ?_⟩) ?_ ?_
  rotate_left
  ·intro w'
   go_simp
   with_reducible rfl
  rotate_left
  ·simp only [Act.put, List.setIfInBounds_toArray, List.set_cons_zero, List.set_cons_succ, i64_w, i32_w]
   rfl
  refine take_ (i := 8) (N := some 24) (v := ?_) (a' := ?_) #[true, true, true, true, true, true, true, true, true, false, false, false] rfl rfl (by kernel_rfl) (fun _ _ _ h => h) (Or.inl ⟨by rfl, ?_⟩) hHeld ?_ ?_
  rotate_left
  ·rintro w' ⟨s0, s1, s2, s3⟩
   go_simp
   with_reducible rfl
  rotate_left
  ·simp only [Act.put, List.setIfInBounds_toArray, List.set_cons_zero, List.set_cons_succ, i64_w, i32_w]
   rfl
  refine pure_ (i := 9) (N := some 25) (v := ?_) (a' := ?_) #[true, true, true, true, true, true, true, true, true, true, false, false] rfl rfl (by kernel_rfl) (fun _ _ _ h => h) (Or.inl ⟨by rfl, ?_⟩) ?_ ?_
  rotate_left
  ·intro w'
   go_simp
   with_reducible rfl
  rotate_left
  ·simp only [Act.put, List.setIfInBounds_toArray, List.set_cons_zero, List.set_cons_succ, i64_w, i32_w]
   rfl
  refine pure_ (i := 10) (N := some 26) (v := ?_) (a' := ?_) #[true, true, true, true, true, true, true, true, true, true, true, false] rfl rfl (by kernel_rfl) (fun _ _ _ h => h) (Or.inl ⟨by rfl, ?_⟩) ?_ ?_
  rotate_left
  ·intro w'
   go_simp
   with_reducible rfl
  rotate_left
  ·simp only [Act.put, List.setIfInBounds_toArray, List.set_cons_zero, List.set_cons_succ, i64_w, i32_w]
   rfl
  refine last_ (i := 11) (N := none) #[true, true, true, true, true, true, true, true, true, true, true, true] rfl rfl (by kernel_rfl) (by decide) (fun K hK => ?_)
  refine skip_ (w1 := ?_) (by rfl) rfl ?_ ?_
  rotate_left
  ·go_simp
   rfl
  refine hK.out _ _ ?_
  clear hK K
  refine done_ (by kernel_rfl) (OnlyN.n ?_)
  clear hHeld
  have HJ1 : Aside0 (TJ (Kd.int .i64) 3 w.heap.size (w.heap.size + 1 + 1) (w.heap.size + 1) (w1.heap.size + 1) (w1.alloc (.cells #[.slice A1 O.length c1] 29)).heap.size l0.length (.cells #[.slice (some ad) l0.length c0] 25 (0, 0)) (.cells #[.slice (some ⟨w.heap.size + 1, 0, none⟩) l0.length l0.length] 29 (0, 0)) w W (W.setCell ⟨w.heap.size + 1, vn, none⟩ (.int .i64 (wrap64 (y + q.f0)))).drew (t.set vn (wrap64 (y + q.f0)))) := ⟨(HJ.out.put vn _ (by omega) (by omega) (by omega)).drew⟩
  clear zL zB hc1 hf hk0 hk1
  generalize (W.setCell ⟨w.heap.size + 1, vn, none⟩ (.int .i64 (wrap64 (y + q.f0)))).drew = W1 at HJ1 ⊢
  obtain ⟨t1, ht1⟩ : ∃ t1, t1 = t.set vn (wrap64 (y + q.f0)) := ⟨_, rfl⟩
  rw [← ht1] at HJ1
  have HT1 := Aside0.mk ht1
  clear ht1
  have zL1 : W1.cell? ⟨w.heap.size, 0, none⟩ = some (.slice (some ad) l0.length c0) := (blk_cell HJ1.out.b1 0).trans rfl
  have hk1 := pw_cell_below HJ1.out.bel HK1.out
  gi_wp2
  gi_loopw [33] (fun v33 W' => ∃ j : Nat, v33 = .int .i64 (j : Int) ∧ j ≤ q.f1.length ∧ Aside0 (TJ (Kd.int .i64) 3 w.heap.size (w.heap.size + 1 + 1) (w.heap.size + 1) (w1.heap.size + 1) (w1.alloc (.cells #[.slice A1 O.length c1] 29)).heap.size l0.length (.cells #[.slice (some ad) l0.length c0] 25 (0, 0)) (.cells #[.slice (some ⟨w.heap.size + 1, 0, none⟩) l0.length l0.length] 29 (0, 0)) w W W' ((q.f1.take j).foldl (tlNeed vn) t1))) (fun v33 _ => q.f1.length - (intOf v33).toNat)
  case atStart => exact ⟨0, rfl, Nat.zero_le _, HJ1⟩
  case round =>
   obtain ⟨j, rfl, hjl, HJ2⟩ := hrel
   clear zL1 hk1 HJ1
   have hqm := HKC.out.2.1
   by_cases hlt : j < q.f1.length
   ·obtain ⟨ad2, e2, hcell⟩ := Kd.at_int (Kd.C_below HKC.out HJ2.out.bel) (j : Int) (by omega) (by omega)
    cases e2
    rw [Int.toNat_natCast] at hcell
    have hn := HX2.out (rd q.f1 (j : Int)) (by rw [HQ.out]; unfold rd; rw [Int.toNat_natCast, List.getD_eq_getElem?_getD, List.getElem?_eq_getElem (by rw [← HQ.out]; exact hlt)]; exact List.getElem_mem _)
    have htk : q.f1.take (j + 1) = q.f1.take j ++ [rd q.f1 (j : Int)] := by unfold rd; rw [Int.toNat_natCast, List.take_succ_eq_append_getElem hlt, List.getD_eq_getElem?_getD, List.getElem?_eq_getElem hlt]; rfl
    obtain ⟨n, hnn⟩ : ∃ n, n = rd q.f1 (j : Int) := ⟨_, rfl⟩
    rw [← hnn] at hcell hn htk
    obtain ⟨hn0, hn1⟩ := hn
    obtain ⟨nn, rfl⟩ := Int.eq_ofNat_of_zero_le hn0
    have HTK := Aside0.mk htk
    obtain ⟨T, hT⟩ : ∃ T, T = (q.f1.take j).foldl (tlNeed vn) t1 := ⟨_, rfl⟩
    rw [← hT] at HJ2
    have HTT := Aside0.mk hT
    clear htk hnn hT hn0
    have zB : wr.cell? ⟨w.heap.size + 1 + 1, 0, none⟩ = some (.slice (some ⟨w.heap.size + 1, 0, none⟩) l0.length l0.length) := (blk_cell HJ2.out.b2 0).trans rfl
    obtain ⟨hc1, _⟩ := Kd.R_celln 0 HJ2.out.b3 (vn : Int) (by omega) (by omega)
    obtain ⟨hc2, hf⟩ := Kd.R_celln 0 HJ2.out.b3 (nn : Int) (by omega) hn1
    rw [Int.toNat_natCast] at hc1 hc2 hf
    obtain ⟨y1, hy1⟩ : ∃ y1, y1 = rd T (vn : Int) := ⟨_, rfl⟩
    obtain ⟨y2, hy2⟩ : ∃ y2, y2 = rd T (nn : Int) := ⟨_, rfl⟩
    have hd1 : wr.cell? ⟨w.heap.size + 1, vn, none⟩ = some (.int .i64 y1) := by rw [hy1]; exact hc1
    have hd2 : wr.cell? ⟨w.heap.size + 1, nn, none⟩ = some (.int .i64 y2) := by rw [hy2]; exact hc2
    clear hc1 hc2
    have p2 : nn < l0.length := by omega
    have HY1 := Aside0.mk hy1
    have HY2 := Aside0.mk hy2
    clear hy1 hy2 hn1
    gi_wp2
    refine startIn_ (n := 13) (S := fun w' => w'.cell? ⟨w.heap.size + 1 + 1, 0, none⟩ = some (.slice (some ⟨w.heap.size + 1, 0, none⟩) l0.length l0.length) ∧ w'.cell? ⟨w.heap.size + 1, vn, none⟩ = some (.int .i64 y1) ∧ w'.cell? ⟨w.heap.size + 1, nn, none⟩ = some (.int .i64 y2)) (ds := [12]) #[false, false, false, false, false, false, false, false, false, false, false, false, false] (by kernel_rfl) rfl rfl (by decide) ⟨zB, hd1, hd2⟩ (fun hHeld => ?_)
    refine pure_ (i := 1) (N := some 38) (v := ?_) (a' := ?_) #[false, true, false, false, false, false, false, false, false, false, false, false, false] rfl rfl (by kernel_rfl) (fun _ _ _ h => h) (Or.inl ⟨by rfl, ?_⟩) ?_ ?_
    rotate_left
    ·intro w'
     go_simp
     with_reducible rfl
    rotate_left
    ·simp only [Act.put, List.setIfInBounds_toArray, List.set_cons_zero, List.set_cons_succ, i64_w, i32_w]
     rfl
    refine pure_ (i := 3) (N := some 40) (v := ?_) (a' := ?_) #[false, true, false, true, false, false, false, false, false, false, false, false, false] rfl rfl (by kernel_rfl) (fun _ _ _ h => h) (Or.inl ⟨by rfl, ?_⟩) ?_ ?_
    rotate_left
    ·intro w'
     go_simp
     with_reducible rfl
    rotate_left
    ·simp only [Act.put, List.setIfInBounds_toArray, List.set_cons_zero, List.set_cons_succ, i64_w, i32_w]
     rfl
    refine pure_ (i := 7) (N := some 44) (v := ?_) (a' := ?_) #[false, true, false, true, false, false, false, true, false, false, false, false, false] rfl rfl (by kernel_rfl) (fun _ _ _ h => h) (Or.inl ⟨by rfl, ?_⟩) ?_ ?_
    rotate_left
    ·intro w'
     go_simp
     with_reducible rfl
    rotate_left
    ·simp only [Act.put, List.setIfInBounds_toArray, List.set_cons_zero, List.set_cons_succ, i64_w, i32_w]
     rfl
    refine take_ (i := 0) (N := some 37) (v := ?_) (a' := ?_) #[true, true, false, true, false, false, false, true, false, false, false, false, false] rfl rfl (by kernel_rfl) (fun _ _ _ h => h) (Or.inl ⟨by rfl, ?_⟩) hHeld ?_ ?_
    rotate_left
    ·rintro w' ⟨s0, s1, s2⟩
     go_simp
     with_reducible rfl
    rotate_left
    ·simp only [Act.put, List.setIfInBounds_toArray, List.set_cons_zero, List.set_cons_succ, i64_w, i32_w]
     rfl
    refine take_ (i := 2) (N := some 39) (v := ?_) (a' := ?_) #[true, true, true, true, false, false, false, true, false, false, false, false, false] rfl rfl (by kernel_rfl) (fun _ _ _ h => h) (Or.inl ⟨by rfl, ?_⟩) hHeld ?_ ?_
    rotate_left
    ·rintro w' ⟨s0, s1, s2⟩
     go_simp
     with_reducible rfl
    rotate_left
    ·simp only [Act.put, List.setIfInBounds_toArray, List.set_cons_zero, List.set_cons_succ, i64_w, i32_w]
     rfl
    refine pure_ (i := 4) (N := some 41) (v := ?_) (a' := ?_) #[true, true, true, true, true, false, false, true, false, false, false, false, false] rfl rfl (by kernel_rfl) (fun _ _ _ h => h) (Or.inl ⟨by rfl, ?_⟩) ?_ ?_
    rotate_left
    ·intro w'
     go_simp
     with_reducible rfl
    rotate_left
    ·simp only [Act.put, List.setIfInBounds_toArray, List.set_cons_zero, List.set_cons_succ, i64_w, i32_w]
     rfl
    refine take_ (i := 5) (N := some 42) (v := ?_) (a' := ?_) #[true, true, true, true, true, true, false, true, false, false, false, false, false] rfl rfl (by kernel_rfl) (fun _ _ _ h => h) (Or.inl ⟨by rfl, ?_⟩) hHeld ?_ ?_
    rotate_left
    ·rintro w' ⟨s0, s1, s2⟩
     go_simp
     with_reducible rfl
    rotate_left
    ·simp only [Act.put, List.setIfInBounds_toArray, List.set_cons_zero, List.set_cons_succ, i64_w, i32_w]
     rfl
    refine take_ (i := 6) (N := some 43) (v := ?_) (a' := ?_) #[true, true, true, true, true, true, true, true, false, false, false, false, false] rfl rfl (by kernel_rfl) (fun _ _ _ h => h) (Or.inl ⟨by rfl, ?_⟩) hHeld ?_ ?_
    rotate_left
    ·rintro w' ⟨s0, s1, s2⟩
     go_simp
     with_reducible rfl
    rotate_left
    ·simp only [Act.put, List.setIfInBounds_toArray, List.set_cons_zero, List.set_cons_succ, i64_w, i32_w]
     rfl
    refine pure_ (i := 8) (N := some 45) (v := ?_) (a' := ?_) #[true, true, true, true, true, true, true, true, true, false, false, false, false] rfl rfl (by kernel_rfl) (fun _ _ _ h => h) (Or.inl ⟨by rfl, ?_⟩) ?_ ?_
    rotate_left
    ·intro w'
     go_simp
     with_reducible rfl
    rotate_left
    ·simp only [Act.put, List.setIfInBounds_toArray, List.set_cons_zero, List.set_cons_succ, i64_w, i32_w]
     rfl
    refine take_ (i := 9) (N := some 46) (v := ?_) (a' := ?_) #[true, true, true, true, true, true, true, true, true, true, false, false, false] rfl rfl (by kernel_rfl) (fun _ _ _ h => h) (Or.inl ⟨by rfl, ?_⟩) hHeld ?_ ?_
    rotate_left
    ·rintro w' ⟨s0, s1, s2⟩
     go_simp
     with_reducible rfl
    rotate_left
    ·simp only [Act.put, List.setIfInBounds_toArray, List.set_cons_zero, List.set_cons_succ, i64_w, i32_w]
     rfl
    refine pure_ (i := 10) (N := some 47) (v := ?_) (a' := ?_) #[true, true, true, true, true, true, true, true, true, true, true, false, false] rfl rfl (by kernel_rfl) (fun _ _ _ h => h) (Or.inl ⟨by rfl, ?_⟩) ?_ ?_
    rotate_left
    ·intro w'
     go_simp
     with_reducible rfl
    rotate_left
    ·simp only [Act.put, List.setIfInBounds_toArray, List.set_cons_zero, List.set_cons_succ, i64_w, i32_w]
     rfl
    refine pure_ (i := 11) (N := some 48) (v := ?_) (a' := ?_) #[true, true, true, true, true, true, true, true, true, true, true, true, false] rfl rfl (by kernel_rfl) (fun _ _ _ h => h) (Or.inl ⟨by rfl, ?_⟩) ?_ ?_
    rotate_left
    ·intro w'
     go_simp
     with_reducible rfl
    rotate_left
    ·simp only [Act.put, List.setIfInBounds_toArray, List.set_cons_zero, List.set_cons_succ, i64_w, i32_w]
     rfl
    refine last_ (i := 12) (N := none) #[true, true, true, true, true, true, true, true, true, true, true, true, true] rfl rfl (by kernel_rfl) (by decide) (fun K hK => ?_)
    refine skip_ (w1 := ?_) (by rfl) rfl ?_ ?_
    rotate_left
    ·go_simp
     rfl
    refine hK.out _ _ ?_
    clear hK K
    refine done_ (by kernel_rfl) (OnlyN.n ?_)
    clear hHeld
    have HJ3 : Aside0 (TJ (Kd.int .i64) 3 w.heap.size (w.heap.size + 1 + 1) (w.heap.size + 1) (w1.heap.size + 1) (w1.alloc (.cells #[.slice A1 O.length c1] 29)).heap.size l0.length (.cells #[.slice (some ad) l0.length c0] 25 (0, 0)) (.cells #[.slice (some ⟨w.heap.size + 1, 0, none⟩) l0.length l0.length] 29 (0, 0)) w W (wr.setCell ⟨w.heap.size + 1, nn, none⟩ (.int .i64 (if y2 < y1 then y1 else y2))).drew (T.set nn (mx y2 y1))) := ⟨(HJ2.out.put nn (mx y2 y1) (by omega) (by omega) (by omega)).drew⟩
    have HE := Aside0.mk (show [(nn : Int)].foldl (tlNeed vn) T = T.set nn (mx y2 y1) by rw [HY1.out, HY2.out]; rfl)
    gi_wp2
    go_roundw
    case rel => exact ⟨j + 1, by first | rfl | go_num, by omega, ⟨by rw [HTK.out, List.foldl_append, ← HTT.out, HE.out]; exact HJ3.out⟩⟩
    case measure => simp [intOf]; omega
   ·obtain rfl : j = q.f1.length := by omega
    have HJ4 := HJ2
    rw [List.take_of_length_le (Nat.le_refl _)] at HJ4
    gi_wp2
    refine ⟨HJ4.out.kf, HJ4.out.kp, ⟨HJ4.out.b1, HJ4.out.b2, ?_⟩, HJ4.out.bel⟩
    rw [HFOL.out]
    have z := HJ4.out.b3
    rw [HT1.out, HY.out, HQ.out] at z
    exact z
 case done =>
  rintro D ys W hD hS ⟨⟨b1, b2, b3⟩, hB⟩ hK
  have hz : W.cell? ⟨w.heap.size + 1 + 1, 0, none⟩ = some (.slice (some ⟨w.heap.size + 1, 0, none⟩) l0.length l0.length) := (blk_cell b2 0).trans rfl
  have H1 := Aside0.mk b1
  have H3 := Aside0.mk b3
  have H4 := Aside0.mk hB
  have H5 := Aside0.mk hK
  have H6 := Aside0.mk hS
  have H7 := Aside0.mk hD
  clear b1 b2 b3 hB hK hS hD
  gi_wp2
  refine ⟨by simp, .inl ⟨_, _, rfl, run_takeDeferred H5.out, ?_⟩⟩
  refine ⟨_, results_tmp rfl _ _ _, _, rfl, ?_, ?_⟩
  ·rw [← H6.out, List.foldl_map]
   have hD := H7.out
   have hs0 := HS0.out
   rw [World.size_alloc] at hD
   exact Kd.R_mono (Kd.R_step H3.out (fun k hk _ => by subst hk; exact World.putObj_heap_other (by omega))) (fun _ _ => trivial)
  ·have hD := H7.out
   have hs0 := HS0.out
   rw [World.size_alloc] at hD
   exact H4.out.trans (belowK_b (w := w) (Nat.le_refl _) W D _ _ (by omega) H5.out rfl rfl)
 case stop =>
  rintro D c pre W _ _ h _
  exact h.elim

end Go.Proofs.Ytpgegjbnnbkhiaa.PFnExactCriticalOf
