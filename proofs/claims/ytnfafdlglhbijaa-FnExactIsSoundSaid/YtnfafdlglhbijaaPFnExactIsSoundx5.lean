-- written by xprint.py (a program of this session's, over the kit's print): printed functions, and some by hand
import Derived.Test.YtnfafdlglhbijaaPFnExactIsSoundx0
import Derived.Test.YtnfafdlglhbijaaPFnExactIsSoundx3
import Derived.Test.YtnfafdlglhbijaaPFnExactIsSoundx4
namespace Go.Proofs.Ytnfafdlglhbijaa.PFnExactIsSound
open Go.RowKit Go.Proofs.YtnfafdlglhbijaaW.PrintWords Go.Proofs.YtnfafdlglhbijaaW.PrintLast Go.Proofs.YtnfafdlglhbijaaW.PrintMore
attribute [local go_sem] max2_int min2_int max_two min_two max_three min_three max_four min_four   -- for this text's walks alone
set_option linter.unusedVariables false
set_option linter.unusedSimpArgs false

/-! ### spec_IsSound: function 40, by hand; a text alone -/
def spFires (k : Nat) (st : List S60) (m : List Int) : Nat → List Bool → Option (List Bool)
  | 0, fs => some fs
  | d + 1, fs => (spec_l3Fire.f k (rd_T60 st ((st.length - (d + 1) : Nat) : Int)).f0 (rd_T60 st ((st.length - (d + 1) : Nat) : Int)).f1 m).bind fun b => spFires k st m d (fs.set ((st.length - (d + 1) : Nat) : Int).toNat (rdOf false fs ((st.length - (d + 1) : Nat) : Int) || b.2))
/-- none within: not sound -/
def spRows (k : Nat) (n : Int) (st : List S60) (e : List Int) : List (List Int) → List Bool → Option (Option (List Bool))
  | [], fs => some (some fs)
  | m :: r, fs => if 0 ≤ wrap64 (n - 1) ∧ wrap64 (n - 1) < (m.length : Int) then ((if 0 < rd m (wrap64 (n - 1)) then (spec_l3Same.f k m e) else some true).bind fun b => if b = true then (spFires k st m st.length fs).bind fun fs' => (spec_l3From.f k n st m).bind fun q => (spec_l3At.f k q.1 e).bind fun t => if t < 0 then some none else spRows k n st e r fs' else some none) else none
def spec_IsSound.f (k : Nat) (n : Int) (st : List S60) : Option (Bool × Bool) := if st.length ≤ 2000000 then (spec_GoodNet.f k n st).bind fun t => if t = true then (if n < 2 then some (false, false) else (spec_l3One.f n (wrap64 (n - 1))).bind fun e => (spec_l3One.f n 0).bind fun e0 => (spec_l3From.f k n st e0).bind fun all => if all.2.2 = true then (if all.1.length ≤ 1000000 then (spRows k n st e all.1 (List.replicate st.length false)).bind fun o => match o with | none => some (false, true) | some fs => some (fs.all (fun b => b), true) else none) else some (false, false)) else some (false, false) else none
set_option maxHeartbeats 16000000 in
set_option maxRecDepth 100000 in
theorem spec_IsSound.calls (k : Nat) (a0_0 : Int) (A0_1 : Option Addr) (c0_1 : Nat) (l0_1 : List (S60)) (r1 r2 : Bool) (w : World) (hr0_1 : Kd.C k60 w A0_1 l0_1.length l0_1) (hc0_1 : l0_1.length ≤ c0_1) (h : spec_IsSound.f k a0_0 l0_1 = some (r1, r2)) :
    Calls Try.prog 40 #[.agg #[.int .i64 a0_0, .slice A0_1 l0_1.length c0_1]] w fun e w' => e = .returned (.tuple #[.bool r1, .bool r2]) ∧ Below w.heap.size w w' := by
  have hu29 := Try.underlying29
  have hu60 := Try.underlying60
  have HR0_1 := Aside0.mk hr0_1
  have HC0_1 := Aside0.mk hc0_1
  clear hr0_1 hc0_1
  have HB := Aside0.mk (Below.refl w.heap.size w)
  unfold spec_IsSound.f at h
  by_cases hg : l0_1.length ≤ 2000000
  case neg => rw [if_neg hg] at h; cases h
  rw [if_pos hg] at h
  have HG := Aside0.mk hg
  clear hg
  obtain ⟨t, T, h⟩ := Option.bind_eq_some_iff.1 h
  have HT := Aside0.mk T
  clear T
  cases t with
  | false =>
    rw [if_neg (by decide)] at h
    simp only [Option.some.injEq, Prod.mk.injEq] at h
    obtain ⟨rfl, rfl⟩ := h
    go_enter Try.func40, Try.ntmps40
    go_wp2_with (first | ((with_reducible refine gate_dst (N := 1) rfl ?_); refine box_event ?hg (N := 1) ?hd (cs := #[.int .i64 a0_0, .slice A0_1 l0_1.length c0_1]) (t := 29) ?hr ?_; (case hd => rfl); (case hg => rfl); (case hr => first | (go_simp; done) | (go_simp; rfl)); intro gb hg w3 hbox hb; have n0_ := Aside0.mk (below_step (by repeat (first | exact HB.out | apply below_alloc | apply pw_below_drewN | apply below_drew1)) hb); have n1_ := Aside0.mk hbox; clear HB; have HB := n0_; have BK := n1_; clear n0_ n1_; clear hb hbox hg; have hcz_0 : w3.cell? ⟨gb, 0, none⟩ = some (.int .i64 a0_0) := (blk_cell BK.out 0).trans rfl; have hcz_1 : w3.cell? ⟨gb, 1, none⟩ = some (.slice A0_1 l0_1.length c0_1) := (blk_cell BK.out 1).trans rfl; have hfz_0 := blk_frozen BK.out 0; have hfz_1 := blk_frozen BK.out 1) | (go_at_call 14; refine (spec_GoodNet.calls k a0_0 A0_1 c0_1 l0_1 false _ (Kd.C_below HR0_1.out HB.out) HC0_1.out HT.out).mono ?_; rintro e w4 ⟨rfl, hb4⟩; have HB4 := Aside0.mk (below_then HB.out HB.out.size hb4); have BK4 := Aside0.mk (blk_below BK.out hb4); clear hb4 hcz_0 hcz_1 hfz_0 hfz_1 HB BK; have hn0 : w4.cell? ⟨gb, 0, none⟩ = some (.int .i64 a0_0) := (blk_cell BK4.out 0).trans rfl))
    go_ret2
    exact ⟨rfl, HB4.out⟩
  | true =>
    rw [if_pos rfl] at h
    by_cases h2 : a0_0 < 2
    · rw [if_pos h2] at h
      simp only [Option.some.injEq, Prod.mk.injEq] at h
      obtain ⟨rfl, rfl⟩ := h
      have h2b : decide (a0_0 < 2) = true := decide_eq_true h2
      clear h2
      go_enter Try.func40, Try.ntmps40
      go_wp2_with (first | ((with_reducible refine gate_dst (N := 1) rfl ?_); refine box_event ?hg (N := 1) ?hd (cs := #[.int .i64 a0_0, .slice A0_1 l0_1.length c0_1]) (t := 29) ?hr ?_; (case hd => rfl); (case hg => rfl); (case hr => first | (go_simp; done) | (go_simp; rfl)); intro gb hg w3 hbox hb; have n0_ := Aside0.mk (below_step (by repeat (first | exact HB.out | apply below_alloc | apply pw_below_drewN | apply below_drew1)) hb); have n1_ := Aside0.mk hbox; clear HB; have HB := n0_; have BK := n1_; clear n0_ n1_; clear hb hbox hg; have hcz_0 : w3.cell? ⟨gb, 0, none⟩ = some (.int .i64 a0_0) := (blk_cell BK.out 0).trans rfl; have hcz_1 : w3.cell? ⟨gb, 1, none⟩ = some (.slice A0_1 l0_1.length c0_1) := (blk_cell BK.out 1).trans rfl; have hfz_0 := blk_frozen BK.out 0; have hfz_1 := blk_frozen BK.out 1) | (go_at_call 14; refine (spec_GoodNet.calls k a0_0 A0_1 c0_1 l0_1 true _ (Kd.C_below HR0_1.out HB.out) HC0_1.out HT.out).mono ?_; rintro e w4 ⟨rfl, hb4⟩; have HB4 := Aside0.mk (below_then HB.out HB.out.size hb4); have BK4 := Aside0.mk (blk_below BK.out hb4); clear hb4 hcz_0 hcz_1 hfz_0 hfz_1 HB BK; have hn0 : w4.cell? ⟨gb, 0, none⟩ = some (.int .i64 a0_0) := (blk_cell BK4.out 0).trans rfl))
      go_ret2
      exact ⟨rfl, HB4.out⟩
    · rw [if_neg h2] at h
      have h2b : decide (a0_0 < 2) = false := decide_eq_false h2
      clear h2
      obtain ⟨e7, S, h⟩ := Option.bind_eq_some_iff.1 h
      obtain ⟨e0, S0, h⟩ := Option.bind_eq_some_iff.1 h
      obtain ⟨⟨q1, q2, q3⟩, M, h⟩ := Option.bind_eq_some_iff.1 h
      have HSG := Aside0.mk S
      have HS0 := Aside0.mk S0
      have HFR := Aside0.mk M
      clear S S0 M
      cases q3 with
      | false =>
        simp only [Bool.false_eq_true, if_false, Option.some.injEq, Prod.mk.injEq] at h
        obtain ⟨rfl, rfl⟩ := h
        go_enter Try.func40, Try.ntmps40
        go_wp2_with (first | ((with_reducible refine gate_dst (N := 1) rfl ?_); refine box_event ?hg (N := 1) ?hd (cs := #[.int .i64 a0_0, .slice A0_1 l0_1.length c0_1]) (t := 29) ?hr ?_; (case hd => rfl); (case hg => rfl); (case hr => first | (go_simp; done) | (go_simp; rfl)); intro gb hg w3 hbox hb; have n0_ := Aside0.mk (below_step (by repeat (first | exact HB.out | apply below_alloc | apply pw_below_drewN | apply below_drew1)) hb); have n1_ := Aside0.mk hbox; clear HB; have HB := n0_; have BK := n1_; clear n0_ n1_; clear hb hbox hg; have hcz_0 : w3.cell? ⟨gb, 0, none⟩ = some (.int .i64 a0_0) := (blk_cell BK.out 0).trans rfl; have hcz_1 : w3.cell? ⟨gb, 1, none⟩ = some (.slice A0_1 l0_1.length c0_1) := (blk_cell BK.out 1).trans rfl; have hfz_0 := blk_frozen BK.out 0; have hfz_1 := blk_frozen BK.out 1) | (go_at_call 14; refine (spec_GoodNet.calls k a0_0 A0_1 c0_1 l0_1 true _ (Kd.C_below HR0_1.out HB.out) HC0_1.out HT.out).mono ?_; rintro e w4 ⟨rfl, hb4⟩; have HB4 := Aside0.mk (below_then HB.out HB.out.size hb4); have BK4 := Aside0.mk (blk_below BK.out hb4); clear hb4 hcz_0 hcz_1 hfz_0 hfz_1 HB BK; have hn0 : w4.cell? ⟨gb, 0, none⟩ = some (.int .i64 a0_0) := (blk_cell BK4.out 0).trans rfl) | (go_at_call 68; refine (spec_l3One.calls a0_0 (wrap64 (a0_0 - 1)) e7 _ HSG.out).mono ?_; rintro e w7 ⟨v7, rfl, hr7, hb7⟩; obtain ⟨A7, c7, hv7⟩ := Kd.R_slice hr7; subst hv7; have HB7 := Aside0.mk (below_then HB4.out HB4.out.size hb7); have BK7 := Aside0.mk (blk_below BK4.out hb7); have HR7 := Aside0.mk (Kd.R_lower hr7 HB4.out.size); clear hr7 hb7 hn0 HB4 BK4))
        refine start_ (n := 12) (S := (fun w' => w'.cell? ⟨gb, 0, none⟩ = some (.int .i64 a0_0) ∧ w'.cell? ⟨gb, 1, none⟩ = some (.slice A0_1 l0_1.length c0_1))) (ds := []) #[false, false, false, false, false, false, false, false, false, false, false, false] (by kernel_rfl) rfl rfl ⟨(blk_cell (blk_below BK7.out (below_drew1 (Below.refl _ _))) 0).trans rfl, (blk_cell (blk_below BK7.out (below_drew1 (Below.refl _ _))) 1).trans rfl⟩ (fun hHeld => ?_)
        have HW0 := Aside0.mk (below_drew1 (Below.refl w7.heap.size w7))
        generalize World.drew w7 = wd at HW0 hHeld ⊢
        refine take_ (i := 0) (N := some 35) (v := ?_) (a' := ?_) #[true, false, false, false, false, false, false, false, false, false, false, false] rfl rfl (by kernel_rfl) (fun _ _ _ h => h) (Or.inl ⟨by rfl, ?_⟩) hHeld ?_ ?_
        rotate_left
        · rintro w' ⟨s0, s1⟩
          go_simp
          with_reducible rfl
        rotate_left
        · simp only [Act.put, List.setIfInBounds_toArray, List.set_cons_zero, List.set_cons_succ, i64_w, i32_w]
          rfl
        refine pure_ (i := 1) (N := some 36) (v := ?_) (a' := ?_) #[true, true, false, false, false, false, false, false, false, false, false, false] rfl rfl (by kernel_rfl) (fun _ _ _ h => h) (Or.inl ⟨by rfl, ?_⟩) ?_ ?_
        rotate_left
        · intro w'
          go_simp
          with_reducible rfl
        rotate_left
        · simp only [Act.put, List.setIfInBounds_toArray, List.set_cons_zero, List.set_cons_succ, i64_w, i32_w]
          rfl
        refine take_ (i := 2) (N := some 37) (v := ?_) (a' := ?_) #[true, true, true, false, false, false, false, false, false, false, false, false] rfl rfl (by kernel_rfl) (fun _ _ _ h => h) (Or.inl ⟨by rfl, ?_⟩) hHeld ?_ ?_
        rotate_left
        · rintro w' ⟨s0, s1⟩
          go_simp
          with_reducible rfl
        rotate_left
        · simp only [Act.put, List.setIfInBounds_toArray, List.set_cons_zero, List.set_cons_succ, i64_w, i32_w]
          rfl
        refine one_ (i := 3) (N := some 38) #[true, true, true, true, false, false, false, false, false, false, false, false] rfl rfl (by kernel_rfl) (by decide) (fun K hK => ?_)
        clear hHeld
        refine goes_ Try.func68 (by kernel_rfl) rfl #[.int .i64 a0_0, .int .i64 0] (by rfl) rfl rfl (by (try simp only [List.map_toArray, List.map_cons, List.map_nil]); first | done | rfl) ?_
        refine (spec_l3One.calls a0_0 0 e0 wd HS0.out).mono ?_
        rintro e w8 ⟨v8, rfl, hr8, hb8⟩
        obtain ⟨A8, c8, hv8⟩ := Kd.R_slice hr8
        subst hv8
        have HB8 := Aside0.mk (below_then HW0.out HW0.out.size hb8)
        have HR8 := Aside0.mk (Kd.R_reads' hr8).2
        clear hr8 hb8
        refine ⟨_, rfl, hK.out _ _ ⟨(blk_cell (blk_below BK7.out HB8.out) 0).trans rfl, (blk_cell (blk_below BK7.out HB8.out) 1).trans rfl⟩ (fun hHeld => ?_)⟩
        clear hK K
        refine norm_ (a' := ?_) (by simp only [Act.put, List.setIfInBounds_toArray, List.set_cons_zero, List.set_cons_succ]; rfl) ?_
        refine one_ (i := 4) (N := some 39) #[true, true, true, true, true, false, false, false, false, false, false, false] rfl rfl (by kernel_rfl) (by decide) (fun K hK => ?_)
        clear hHeld
        refine goes_ Try.func66 (by kernel_rfl) rfl #[.agg #[.int .i64 a0_0, .slice A0_1 l0_1.length c0_1], .slice A8 e0.length c8] (by rfl) rfl rfl (by (try simp only [List.map_toArray, List.map_cons, List.map_nil]); first | done | rfl) ?_
        refine (spec_l3From.calls k a0_0 A0_1 c0_1 l0_1 A8 c8 e0 q1 q2 false w8 (Kd.C_below HR0_1.out (below_then HB7.out HB7.out.size HB8.out)) HC0_1.out HR8.out.2 HR8.out.1 HFR.out).mono ?_
        rintro e w9 ⟨v9, u9, rfl, hN9, -, hb9⟩
        obtain ⟨AL, cL, hv9⟩ := Kd.N_slice hN9
        subst hv9
        have HL9 := Aside0.mk (Kd.N_reads' hN9).2
        have HB9 := Aside0.mk (below_then HB8.out HB8.out.size hb9)
        clear hN9 hb9 HR8
        refine ⟨_, rfl, hK.out _ _ ⟨(blk_cell (blk_below BK7.out HB9.out) 0).trans rfl, (blk_cell (blk_below BK7.out HB9.out) 1).trans rfl⟩ (fun hHeld => ?_)⟩
        clear hK K
        refine norm_ (a' := ?_) (by simp only [Act.put, List.setIfInBounds_toArray, List.set_cons_zero, List.set_cons_succ]; rfl) ?_
        refine pure_ (i := 5) (N := some 34) (v := ?_) (a' := ?_) #[true, true, true, true, true, true, false, false, false, false, false, false] rfl rfl (by kernel_rfl) (fun _ _ _ h => h) (Or.inl ⟨by rfl, ?_⟩) ?_ ?_
        rotate_left
        · intro w'
          go_simp
          with_reducible rfl
        rotate_left
        · simp only [Act.put, List.setIfInBounds_toArray, List.set_cons_zero, List.set_cons_succ, i64_w, i32_w]
          rfl
        refine pure_ (i := 6) (N := some 40) (v := ?_) (a' := ?_) #[true, true, true, true, true, true, true, false, false, false, false, false] rfl rfl (by kernel_rfl) (fun _ _ _ h => h) (Or.inl ⟨by rfl, ?_⟩) ?_ ?_
        rotate_left
        · intro w'
          go_simp
          with_reducible rfl
        rotate_left
        · simp only [Act.put, List.setIfInBounds_toArray, List.set_cons_zero, List.set_cons_succ, i64_w, i32_w]
          rfl
        refine pure_ (i := 7) (N := some 41) (v := ?_) (a' := ?_) #[true, true, true, true, true, true, true, true, false, false, false, false] rfl rfl (by kernel_rfl) (fun _ _ _ h => h) (Or.inl ⟨by rfl, ?_⟩) ?_ ?_
        rotate_left
        · intro w'
          go_simp
          with_reducible rfl
        rotate_left
        · simp only [Act.put, List.setIfInBounds_toArray, List.set_cons_zero, List.set_cons_succ, i64_w, i32_w]
          rfl
        refine pure_ (i := 8) (N := some 42) (v := ?_) (a' := ?_) #[true, true, true, true, true, true, true, true, true, false, false, false] rfl rfl (by kernel_rfl) (fun _ _ _ h => h) (Or.inl ⟨by rfl, ?_⟩) ?_ ?_
        rotate_left
        · intro w'
          go_simp
          with_reducible rfl
        rotate_left
        · simp only [Act.put, List.setIfInBounds_toArray, List.set_cons_zero, List.set_cons_succ, i64_w, i32_w]
          rfl
        refine pure_ (i := 9) (N := some 5) (v := ?_) (a' := ?_) #[true, true, true, true, true, true, true, true, true, true, false, false] rfl rfl (by kernel_rfl) (fun _ _ _ h => h) (Or.inl ⟨by rfl, ?_⟩) ?_ ?_
        rotate_left
        · intro w'
          go_simp
          with_reducible rfl
        rotate_left
        · simp only [Act.put, List.setIfInBounds_toArray, List.set_cons_zero, List.set_cons_succ, i64_w, i32_w]
          rfl
        refine pure_ (i := 10) (N := some 6) (v := ?_) (a' := ?_) #[true, true, true, true, true, true, true, true, true, true, true, false] rfl rfl (by kernel_rfl) (fun _ _ _ h => h) (Or.inl ⟨by rfl, ?_⟩) ?_ ?_
        rotate_left
        · intro w'
          go_simp
          with_reducible rfl
        rotate_left
        · simp only [Act.put, List.setIfInBounds_toArray, List.set_cons_zero, List.set_cons_succ, i64_w, i32_w]
          rfl
        refine pure_ (i := 11) (N := some 7) (v := ?_) (a' := ?_) #[true, true, true, true, true, true, true, true, true, true, true, true] rfl rfl (by kernel_rfl) (fun _ _ _ h => h) (Or.inl ⟨by rfl, ?_⟩) ?_ ?_
        rotate_left
        · intro w'
          go_simp
          with_reducible rfl
        rotate_left
        · simp only [Act.put, List.setIfInBounds_toArray, List.set_cons_zero, List.set_cons_succ, i64_w, i32_w]
          rfl
        refine done_ (by kernel_rfl) ?_
        clear hHeld HW0 HB8
        have BK9 := Aside0.mk (blk_below BK7.out HB9.out)
        have HWW := Aside0.mk (below_then HB7.out HB7.out.size HB9.out)
        have HE9 := Aside0.mk (Kd.R_reads' (Kd.R_below HR7.out HB9.out)).2
        have HST := Aside0.mk (Kd.C_below HR0_1.out HWW.out)
        clear HR7 BK7 HB9 HB7
        go_wp2
        go_ret2
        exact ⟨rfl, HWW.out⟩
      | true =>
        rw [if_pos rfl] at h
        by_cases hl : q1.length ≤ 1000000
        case neg => rw [if_neg hl] at h; cases h
        rw [if_pos hl] at h
        have HLN := Aside0.mk hl
        clear hl
        obtain ⟨o, S, h⟩ := Option.bind_eq_some_iff.1 h
        have HRW := Aside0.mk S
        have HF := Aside0.mk h
        clear S h
        go_enter Try.func40, Try.ntmps40
        go_wp2_with (first | ((with_reducible refine gate_dst (N := 1) rfl ?_); refine box_event ?hg (N := 1) ?hd (cs := #[.int .i64 a0_0, .slice A0_1 l0_1.length c0_1]) (t := 29) ?hr ?_; (case hd => rfl); (case hg => rfl); (case hr => first | (go_simp; done) | (go_simp; rfl)); intro gb hg w3 hbox hb; have n0_ := Aside0.mk (below_step (by repeat (first | exact HB.out | apply below_alloc | apply pw_below_drewN | apply below_drew1)) hb); have n1_ := Aside0.mk hbox; clear HB; have HB := n0_; have BK := n1_; clear n0_ n1_; clear hb hbox hg; have hcz_0 : w3.cell? ⟨gb, 0, none⟩ = some (.int .i64 a0_0) := (blk_cell BK.out 0).trans rfl; have hcz_1 : w3.cell? ⟨gb, 1, none⟩ = some (.slice A0_1 l0_1.length c0_1) := (blk_cell BK.out 1).trans rfl; have hfz_0 := blk_frozen BK.out 0; have hfz_1 := blk_frozen BK.out 1) | (go_at_call 14; refine (spec_GoodNet.calls k a0_0 A0_1 c0_1 l0_1 true _ (Kd.C_below HR0_1.out HB.out) HC0_1.out HT.out).mono ?_; rintro e w4 ⟨rfl, hb4⟩; have HB4 := Aside0.mk (below_then HB.out HB.out.size hb4); have BK4 := Aside0.mk (blk_below BK.out hb4); clear hb4 hcz_0 hcz_1 hfz_0 hfz_1 HB BK; have hn0 : w4.cell? ⟨gb, 0, none⟩ = some (.int .i64 a0_0) := (blk_cell BK4.out 0).trans rfl) | (go_at_call 68; refine (spec_l3One.calls a0_0 (wrap64 (a0_0 - 1)) e7 _ HSG.out).mono ?_; rintro e w7 ⟨v7, rfl, hr7, hb7⟩; obtain ⟨A7, c7, hv7⟩ := Kd.R_slice hr7; subst hv7; have HB7 := Aside0.mk (below_then HB4.out HB4.out.size hb7); have BK7 := Aside0.mk (blk_below BK4.out hb7); have HR7 := Aside0.mk (Kd.R_lower hr7 HB4.out.size); clear hr7 hb7 hn0 HB4 BK4))
        refine start_ (n := 12) (S := (fun w' => w'.cell? ⟨gb, 0, none⟩ = some (.int .i64 a0_0) ∧ w'.cell? ⟨gb, 1, none⟩ = some (.slice A0_1 l0_1.length c0_1))) (ds := []) #[false, false, false, false, false, false, false, false, false, false, false, false] (by kernel_rfl) rfl rfl ⟨(blk_cell (blk_below BK7.out (below_drew1 (Below.refl _ _))) 0).trans rfl, (blk_cell (blk_below BK7.out (below_drew1 (Below.refl _ _))) 1).trans rfl⟩ (fun hHeld => ?_)
        have HW0 := Aside0.mk (below_drew1 (Below.refl w7.heap.size w7))
        generalize World.drew w7 = wd at HW0 hHeld ⊢
        refine take_ (i := 0) (N := some 35) (v := ?_) (a' := ?_) #[true, false, false, false, false, false, false, false, false, false, false, false] rfl rfl (by kernel_rfl) (fun _ _ _ h => h) (Or.inl ⟨by rfl, ?_⟩) hHeld ?_ ?_
        rotate_left
        · rintro w' ⟨s0, s1⟩
          go_simp
          with_reducible rfl
        rotate_left
        · simp only [Act.put, List.setIfInBounds_toArray, List.set_cons_zero, List.set_cons_succ, i64_w, i32_w]
          rfl
        refine pure_ (i := 1) (N := some 36) (v := ?_) (a' := ?_) #[true, true, false, false, false, false, false, false, false, false, false, false] rfl rfl (by kernel_rfl) (fun _ _ _ h => h) (Or.inl ⟨by rfl, ?_⟩) ?_ ?_
        rotate_left
        · intro w'
          go_simp
          with_reducible rfl
        rotate_left
        · simp only [Act.put, List.setIfInBounds_toArray, List.set_cons_zero, List.set_cons_succ, i64_w, i32_w]
          rfl
        refine take_ (i := 2) (N := some 37) (v := ?_) (a' := ?_) #[true, true, true, false, false, false, false, false, false, false, false, false] rfl rfl (by kernel_rfl) (fun _ _ _ h => h) (Or.inl ⟨by rfl, ?_⟩) hHeld ?_ ?_
        rotate_left
        · rintro w' ⟨s0, s1⟩
          go_simp
          with_reducible rfl
        rotate_left
        · simp only [Act.put, List.setIfInBounds_toArray, List.set_cons_zero, List.set_cons_succ, i64_w, i32_w]
          rfl
        refine one_ (i := 3) (N := some 38) #[true, true, true, true, false, false, false, false, false, false, false, false] rfl rfl (by kernel_rfl) (by decide) (fun K hK => ?_)
        clear hHeld
        refine goes_ Try.func68 (by kernel_rfl) rfl #[.int .i64 a0_0, .int .i64 0] (by rfl) rfl rfl (by (try simp only [List.map_toArray, List.map_cons, List.map_nil]); first | done | rfl) ?_
        refine (spec_l3One.calls a0_0 0 e0 wd HS0.out).mono ?_
        rintro e w8 ⟨v8, rfl, hr8, hb8⟩
        obtain ⟨A8, c8, hv8⟩ := Kd.R_slice hr8
        subst hv8
        have HB8 := Aside0.mk (below_then HW0.out HW0.out.size hb8)
        have HR8 := Aside0.mk (Kd.R_reads' hr8).2
        clear hr8 hb8
        refine ⟨_, rfl, hK.out _ _ ⟨(blk_cell (blk_below BK7.out HB8.out) 0).trans rfl, (blk_cell (blk_below BK7.out HB8.out) 1).trans rfl⟩ (fun hHeld => ?_)⟩
        clear hK K
        refine norm_ (a' := ?_) (by simp only [Act.put, List.setIfInBounds_toArray, List.set_cons_zero, List.set_cons_succ]; rfl) ?_
        refine one_ (i := 4) (N := some 39) #[true, true, true, true, true, false, false, false, false, false, false, false] rfl rfl (by kernel_rfl) (by decide) (fun K hK => ?_)
        clear hHeld
        refine goes_ Try.func66 (by kernel_rfl) rfl #[.agg #[.int .i64 a0_0, .slice A0_1 l0_1.length c0_1], .slice A8 e0.length c8] (by rfl) rfl rfl (by (try simp only [List.map_toArray, List.map_cons, List.map_nil]); first | done | rfl) ?_
        refine (spec_l3From.calls k a0_0 A0_1 c0_1 l0_1 A8 c8 e0 q1 q2 true w8 (Kd.C_below HR0_1.out (below_then HB7.out HB7.out.size HB8.out)) HC0_1.out HR8.out.2 HR8.out.1 HFR.out).mono ?_
        rintro e w9 ⟨v9, u9, rfl, hN9, -, hb9⟩
        obtain ⟨AL, cL, hv9⟩ := Kd.N_slice hN9
        subst hv9
        have HL9 := Aside0.mk (Kd.N_reads' hN9).2
        have HB9 := Aside0.mk (below_then HB8.out HB8.out.size hb9)
        clear hN9 hb9 HR8
        refine ⟨_, rfl, hK.out _ _ ⟨(blk_cell (blk_below BK7.out HB9.out) 0).trans rfl, (blk_cell (blk_below BK7.out HB9.out) 1).trans rfl⟩ (fun hHeld => ?_)⟩
        clear hK K
        refine norm_ (a' := ?_) (by simp only [Act.put, List.setIfInBounds_toArray, List.set_cons_zero, List.set_cons_succ]; rfl) ?_
        refine pure_ (i := 5) (N := some 34) (v := ?_) (a' := ?_) #[true, true, true, true, true, true, false, false, false, false, false, false] rfl rfl (by kernel_rfl) (fun _ _ _ h => h) (Or.inl ⟨by rfl, ?_⟩) ?_ ?_
        rotate_left
        · intro w'
          go_simp
          with_reducible rfl
        rotate_left
        · simp only [Act.put, List.setIfInBounds_toArray, List.set_cons_zero, List.set_cons_succ, i64_w, i32_w]
          rfl
        refine pure_ (i := 6) (N := some 40) (v := ?_) (a' := ?_) #[true, true, true, true, true, true, true, false, false, false, false, false] rfl rfl (by kernel_rfl) (fun _ _ _ h => h) (Or.inl ⟨by rfl, ?_⟩) ?_ ?_
        rotate_left
        · intro w'
          go_simp
          with_reducible rfl
        rotate_left
        · simp only [Act.put, List.setIfInBounds_toArray, List.set_cons_zero, List.set_cons_succ, i64_w, i32_w]
          rfl
        refine pure_ (i := 7) (N := some 41) (v := ?_) (a' := ?_) #[true, true, true, true, true, true, true, true, false, false, false, false] rfl rfl (by kernel_rfl) (fun _ _ _ h => h) (Or.inl ⟨by rfl, ?_⟩) ?_ ?_
        rotate_left
        · intro w'
          go_simp
          with_reducible rfl
        rotate_left
        · simp only [Act.put, List.setIfInBounds_toArray, List.set_cons_zero, List.set_cons_succ, i64_w, i32_w]
          rfl
        refine pure_ (i := 8) (N := some 42) (v := ?_) (a' := ?_) #[true, true, true, true, true, true, true, true, true, false, false, false] rfl rfl (by kernel_rfl) (fun _ _ _ h => h) (Or.inl ⟨by rfl, ?_⟩) ?_ ?_
        rotate_left
        · intro w'
          go_simp
          with_reducible rfl
        rotate_left
        · simp only [Act.put, List.setIfInBounds_toArray, List.set_cons_zero, List.set_cons_succ, i64_w, i32_w]
          rfl
        refine pure_ (i := 9) (N := some 5) (v := ?_) (a' := ?_) #[true, true, true, true, true, true, true, true, true, true, false, false] rfl rfl (by kernel_rfl) (fun _ _ _ h => h) (Or.inl ⟨by rfl, ?_⟩) ?_ ?_
        rotate_left
        · intro w'
          go_simp
          with_reducible rfl
        rotate_left
        · simp only [Act.put, List.setIfInBounds_toArray, List.set_cons_zero, List.set_cons_succ, i64_w, i32_w]
          rfl
        refine pure_ (i := 10) (N := some 6) (v := ?_) (a' := ?_) #[true, true, true, true, true, true, true, true, true, true, true, false] rfl rfl (by kernel_rfl) (fun _ _ _ h => h) (Or.inl ⟨by rfl, ?_⟩) ?_ ?_
        rotate_left
        · intro w'
          go_simp
          with_reducible rfl
        rotate_left
        · simp only [Act.put, List.setIfInBounds_toArray, List.set_cons_zero, List.set_cons_succ, i64_w, i32_w]
          rfl
        refine pure_ (i := 11) (N := some 7) (v := ?_) (a' := ?_) #[true, true, true, true, true, true, true, true, true, true, true, true] rfl rfl (by kernel_rfl) (fun _ _ _ h => h) (Or.inl ⟨by rfl, ?_⟩) ?_ ?_
        rotate_left
        · intro w'
          go_simp
          with_reducible rfl
        rotate_left
        · simp only [Act.put, List.setIfInBounds_toArray, List.set_cons_zero, List.set_cons_succ, i64_w, i32_w]
          rfl
        refine done_ (by kernel_rfl) ?_
        clear hHeld HW0 HB8
        have BK9 := Aside0.mk (blk_below BK7.out HB9.out)
        have HWW := Aside0.mk (below_then HB7.out HB7.out.size HB9.out)
        have HE9 := Aside0.mk (Kd.R_reads' (Kd.R_below HR7.out HB9.out)).2
        have HST := Aside0.mk (Kd.C_below HR0_1.out HWW.out)
        clear HR7 BK7 HB9 HB7
        have hn0 : w9.cell? ⟨gb, 0, none⟩ = some (.int .i64 a0_0) := (blk_cell BK9.out 0).trans rfl
        have hn1 : w9.cell? ⟨gb, 1, none⟩ = some (.slice A0_1 l0_1.length c0_1) := (blk_cell BK9.out 1).trans rfl
        go_wp2_with ((with_reducible refine gate_dst (N := 48) rfl ?_); refine Kd.R_make Kd.bool (w0 := w9) w9.heap.size 4 rfl (N := 48) rfl 83 _ _ rfl (l0_1.length : Int) rfl rfl Try.underlying83 (.bool false) 1 (by kernel_rfl) rfl (by decide) (by omega) false (ok := fun _ => True) (okp := fun _ => True) rfl (fun _ hk => hk) trivial (by omega) (by have := HG.out; rw [Int.toNat_natCast]; omega) (Below.refl _ _) (Nat.le_refl _) ?_; intro v8 w10 ho hb hg_ hnew_; have HD10 := Aside0.mk ho; have HB10 := Aside0.mk hb; clear ho hb hg_ hnew_ hn0 hn1)
        obtain ⟨AF, nF, cF, hv8⟩ : ∃ A n c, v8 = Value.slice A n c := by obtain ⟨A, c, h⟩ := Kd.R_slice HD10.out; exact ⟨A, _, c, h⟩
        subst hv8
        obtain rfl : nF = l0_1.length := by have h1 := (Kd.R_reads' HD10.out).1; rw [List.length_replicate, Int.toNat_natCast] at h1; exact h1
        have HRW2 := Aside0.mk (show spRows k a0_0 l0_1 e7 q1 (List.replicate (l0_1.length : Int).toNat false) = some o by rw [Int.toNat_natCast]; exact HRW.out)
        go_loopg [51] q1.length (fun kq v51 w' => ∃ (y : Int) (j : Nat) (fs : List Bool), v51 = .int .i64 y ∧ Aside0 (y = (j : Int)) ∧ Aside0 (j + kq = q1.length) ∧ Aside0 (fs.length = l0_1.length) ∧ Aside0 (spRows k a0_0 l0_1 e7 (q1.drop j) fs = some o) ∧ Aside0 (Kd.R Kd.bool 4 w' w9.heap.size (fun _ => True) (.slice AF l0_1.length cF) fs) ∧ Aside0 (Below w9.heap.size w9 w'))
        case atStart => exact ⟨0, 0, _, rfl, ⟨rfl⟩, ⟨by simp⟩, ⟨by simp⟩, HRW2, HD10, HB10⟩
        case round =>
          clear HRW HRW2 HD10 HB10
          obtain ⟨y, j, fs, rfl, HY, HJ, HFL, HRW, HD, HB⟩ := hrel
          have hn0 : wr.cell? ⟨gb, 0, none⟩ = some (.int .i64 a0_0) := (blk_cell (blk_below BK9.out HB.out) 0).trans rfl
          have hn1 : wr.cell? ⟨gb, 1, none⟩ = some (.slice A0_1 l0_1.length c0_1) := (blk_cell (blk_below BK9.out HB.out) 1).trans rfl
          cases gk with
          | zero =>
            have hjb : decide (y < (q1.length : Int)) = false := decide_eq_false (by have := HJ.out; have := HY.out; omega)
            have hR := HRW.out
            rw [List.drop_of_length_le (by have := HJ.out; omega)] at hR
            simp only [spRows] at hR
            obtain rfl := Option.some.inj hR
            have hF := HF.out
            simp only [Option.some.injEq, Prod.mk.injEq] at hF
            obtain ⟨hA, rfl⟩ := hF
            have HA := Aside0.mk hA
            clear hR hA
            go_wp2
            go_loopg [107] l0_1.length (fun kq v107 w' => ∃ (z : Int) (i : Nat), v107 = .int .i64 z ∧ Aside0 (z = (i : Int)) ∧ Aside0 (i + kq = l0_1.length) ∧ Aside0 ((fs.drop i).all (fun b => b) = r1) ∧ Aside0 (Kd.R Kd.bool 4 w' w9.heap.size (fun _ => True) (.slice AF l0_1.length cF) fs) ∧ Aside0 (Below w9.heap.size w9 w'))
            case atStart => exact ⟨0, 0, rfl, ⟨rfl⟩, ⟨by simp⟩, ⟨by simpa using HA.out⟩, HD, HB⟩
            case round =>
              clear HA HD HB hn0 hn1 hjb
              obtain ⟨z, i, rfl, HZ, HI, HA, HD, HB⟩ := hrel
              cases gk with
              | zero =>
                have hjb : decide (z < (l0_1.length : Int)) = false := decide_eq_false (by have := HI.out; have := HZ.out; omega)
                have hA := HA.out
                rw [List.drop_of_length_le (by have := HI.out; have := HFL.out; omega)] at hA
                obtain rfl : true = r1 := hA
                go_wp2
                go_ret2
                exact ⟨rfl, below_then HWW.out HWW.out.size HB.out⟩
              | succ d =>
                have hil : i < fs.length := by have := HI.out; have := HFL.out; omega
                have hjb : decide (z < (l0_1.length : Int)) = true := decide_eq_true (by have := HI.out; have := HZ.out; omega)
                have p0 : (0 ≤ z) = True := eq_true (by have := HZ.out; omega)
                have q0 : (z < (l0_1.length : Int)) = True := eq_true (by have := HI.out; have := HZ.out; omega)
                obtain ⟨g, cap, hv, -⟩ := Kd.R_form HD.out (by omega)
                injection hv with hA1 hA2 hA3
                subst hA1
                clear hA2
                obtain ⟨hx, -⟩ := Kd.R_celln false HD.out z (of_eq_true p0) (of_eq_true q0)
                have hA := HA.out
                rw [List.drop_eq_getElem_cons hil] at hA
                have hb : rdOf false fs z = fs[i] := by unfold rdOf; rw [HZ.out, Int.toNat_natCast, List.getD_eq_getElem?_getD, List.getElem?_eq_getElem hil]; rfl
                rw [hb] at hx
                have HW := Aside0.mk (show wrap64 (z + 1) = ((i + 1 : Nat) : Int) by unfold wrap64; have := HI.out; have := HG.out; have := HZ.out; omega)
                generalize fs[i] = b at hA hx
                clear hb hA3
                cases b with
                | true =>
                  have HA2 := Aside0.mk (show (fs.drop (i + 1)).all (fun b => b) = r1 by simpa using hA)
                  clear hA hil
                  go_wp2
                  go_roundg d
                  case measure => omega
                  case rel => exact ⟨wrap64 (z + 1), i + 1, rfl, ⟨HW.out⟩, ⟨by have := HI.out; omega⟩, HA2, HD, HB⟩
                | false =>
                  obtain rfl : false = r1 := by simpa using hA
                  clear hA hil
                  go_wp2
                  go_ret2
                  exact ⟨rfl, below_then HWW.out HWW.out.size HB.out⟩
          | succ d =>
            have hjl : j < q1.length := by have := HJ.out; omega
            have hjb : decide (y < (q1.length : Int)) = true := decide_eq_true (by have := HJ.out; have := HY.out; omega)
            have p0 : 0 ≤ y := by have := HY.out; omega
            have q0 : y < (q1.length : Int) := by have := HY.out; omega
            have hR := HRW.out
            rw [show q1.drop j = rd_L1 q1 y :: q1.drop (j + 1) by unfold rd_L1; rw [HY.out, Int.toNat_natCast, List.drop_eq_getElem_cons hjl, List.getD_eq_getElem?_getD, List.getElem?_eq_getElem hjl]; rfl] at hR
            obtain ⟨ad, B, dd, eA, hxr9, hdd, hCr⟩ := at_L1 HL9.out.2 y p0 q0
            subst eA
            have hxr := (HB.out.cell (World.block_lt_of_cell? w9 _ hxr9)).trans hxr9
            clear hxr9
            obtain ⟨row, hrow⟩ : ∃ row, row = rd_L1 q1 y := ⟨_, rfl⟩
            rw [← hrow] at hR hxr hdd hCr
            have HDR := Aside0.mk hdd
            have HCR9 := Aside0.mk hCr
            have HCr := Aside0.mk (Kd.C_below hCr HB.out)
            have HW := Aside0.mk (show wrap64 (y + 1) = ((j + 1 : Nat) : Int) by unfold wrap64; have := HJ.out; have := HLN.out; have := HY.out; omega)
            replace p0 := eq_true p0
            replace q0 := eq_true q0
            simp only [spRows] at hR
            by_cases hp : 0 ≤ wrap64 (a0_0 - 1) ∧ wrap64 (a0_0 - 1) < (row.length : Int)
            case neg => rw [if_neg hp] at hR; cases hR
            rw [if_pos hp] at hR
            obtain ⟨aB, eB, hxB⟩ := Kd.at_int HCr.out (wrap64 (a0_0 - 1)) hp.1 hp.2
            subst eB
            have pp := eq_true hp.1
            have qp := eq_true hp.2
            clear hp hrow hCr hdd hjl
            by_cases c : 0 < rd row (wrap64 (a0_0 - 1))
            · rw [if_pos c] at hR
              have cb : decide (rd row (wrap64 (a0_0 - 1)) > 0) = true := decide_eq_true c
              clear c
              obtain ⟨b, hb, hR⟩ := Option.bind_eq_some_iff.1 hR
              have HEQ := Aside0.mk hb
              clear hb
              cases b with
              | false =>
                rw [if_neg (by decide)] at hR
                obtain rfl := Option.some.inj hR
                have hF := HF.out
                simp only [Option.some.injEq, Prod.mk.injEq] at hF
                obtain ⟨rfl, rfl⟩ := hF
                clear hR
                go_wp2_with (go_at_call 69; refine (spec_l3Same.calls k (some aB) dd row A7 c7 e7 false _ HCr.out HDR.out (Kd.C_below HE9.out.2 HB.out) HE9.out.1 HEQ.out).mono ?_; rintro e w5 ⟨rfl, hd5⟩; have HS5 := Aside0.mk hd5.below; have HB5 := Aside0.mk (below_then HB.out HB.out.size hd5.below); have HCr5 := Aside0.mk (Kd.C_below HCr.out hd5.below); clear hd5 hn0 hn1 hxr hxB)
                go_ret2
                exact ⟨rfl, below_then HWW.out HWW.out.size HB5.out⟩
              | true =>
                rw [if_pos rfl] at hR
                obtain ⟨fs', hfi, hR⟩ := Option.bind_eq_some_iff.1 hR
                have HFI := Aside0.mk hfi
                have HRW' := Aside0.mk hR
                clear hfi hR HRW
                go_wp2_with (go_at_call 69; refine (spec_l3Same.calls k (some aB) dd row A7 c7 e7 true _ HCr.out HDR.out (Kd.C_below HE9.out.2 HB.out) HE9.out.1 HEQ.out).mono ?_; rintro e w5 ⟨rfl, hd5⟩; have HS5 := Aside0.mk hd5.below; have HB5 := Aside0.mk (below_then HB.out HB.out.size hd5.below); have HCr5 := Aside0.mk (Kd.C_below HCr.out hd5.below); clear hd5 hn0 hn1 hxr hxB; have hn1 : w5.cell? ⟨gb, 1, none⟩ = some (.slice A0_1 l0_1.length c0_1) := (blk_cell (blk_below BK9.out HB5.out) 1).trans rfl)
                have HD5 := Aside0.mk (Kd.R_below HD.out HS5.out)
                clear HD HB HS5
                go_loopg [71] l0_1.length (fun kq v71 w' => ∃ (z : Int) (i : Nat) (fs : List Bool), v71 = .int .i64 z ∧ Aside0 (z = (i : Int)) ∧ Aside0 (i + kq = l0_1.length) ∧ Aside0 (fs.length = l0_1.length) ∧ Aside0 (spFires k l0_1 row kq fs = some fs') ∧ Aside0 (Kd.R Kd.bool 4 w' w9.heap.size (fun _ => True) (.slice AF l0_1.length cF) fs) ∧ Aside0 (Below w9.heap.size w9 w'))
                case atStart => exact ⟨0, 0, fs, rfl, ⟨rfl⟩, ⟨by simp⟩, HFL, HFI, HD5, HB5⟩
                case round =>
                  clear HD5 HB5 HFI HFL HCr5 HCr hn1
                  obtain ⟨z, i, fs, rfl, HZ, HI, HFL, HFI, HD, HB⟩ := hrel
                  have HCr := Aside0.mk (Kd.C_below HCR9.out HB.out)
                  have hn0 : wr.cell? ⟨gb, 0, none⟩ = some (.int .i64 a0_0) := (blk_cell (blk_below BK9.out HB.out) 0).trans rfl
                  have hn1 : wr.cell? ⟨gb, 1, none⟩ = some (.slice A0_1 l0_1.length c0_1) := (blk_cell (blk_below BK9.out HB.out) 1).trans rfl
                  cases gk with
                  | zero =>
                    have hzb : decide (z < (l0_1.length : Int)) = false := decide_eq_false (by have := HI.out; have := HZ.out; omega)
                    have hfi := HFI.out
                    simp only [spFires] at hfi
                    obtain rfl := Option.some.inj hfi
                    obtain ⟨⟨x1, x2, x3⟩, hx, hR⟩ := Option.bind_eq_some_iff.1 HRW'.out
                    obtain ⟨t, ht, hR⟩ := Option.bind_eq_some_iff.1 hR
                    have HX := Aside0.mk hx
                    have HAT := Aside0.mk ht
                    clear hfi hx ht HRW'
                    by_cases ct : t < 0
                    · rw [if_pos ct] at hR
                      obtain rfl := Option.some.inj hR
                      have hF := HF.out
                      simp only [Option.some.injEq, Prod.mk.injEq] at hF
                      obtain ⟨rfl, rfl⟩ := hF
                      have ctb : decide (t < 0) = true := decide_eq_true ct
                      clear ct hR
                      go_wp2_with (first | (go_at_call 66; refine (spec_l3From.calls k a0_0 A0_1 c0_1 l0_1 (some aB) dd row x1 x2 x3 _ (Kd.C_below HST.out HB.out) HC0_1.out HCr.out HDR.out HX.out).mono ?_; rintro e w7 ⟨v7, u7, rfl, hN7, -, hb7⟩; obtain ⟨AX, cX, hv7⟩ := Kd.N_slice hN7; subst hv7; have HL7 := Aside0.mk (Kd.N_reads' hN7).2; have HB7 := Aside0.mk (below_then HB.out HB.out.size hb7); have HD7 := Aside0.mk (Kd.R_below HD.out hb7); clear hN7 hb7 hn0 hn1) | (go_at_call 70; refine (spec_l3At.calls k AX cX x1 A7 c7 e7 t _ HL7.out.2 HL7.out.1 (Kd.C_below HE9.out.2 HB7.out) HE9.out.1 HAT.out).mono ?_; rintro e w8 ⟨rfl, hd8⟩; have HB8 := Aside0.mk (below_then HB7.out HB7.out.size hd8.below); have HD8 := Aside0.mk (Kd.R_below HD7.out hd8.below); clear hd8))
                      go_ret2
                      exact ⟨rfl, below_then HWW.out HWW.out.size HB8.out⟩
                    · rw [if_neg ct] at hR
                      have HRN := Aside0.mk hR
                      have ctb : decide (t < 0) = false := decide_eq_false ct
                      clear ct hR
                      go_wp2_with (first | (go_at_call 66; refine (spec_l3From.calls k a0_0 A0_1 c0_1 l0_1 (some aB) dd row x1 x2 x3 _ (Kd.C_below HST.out HB.out) HC0_1.out HCr.out HDR.out HX.out).mono ?_; rintro e w7 ⟨v7, u7, rfl, hN7, -, hb7⟩; obtain ⟨AX, cX, hv7⟩ := Kd.N_slice hN7; subst hv7; have HL7 := Aside0.mk (Kd.N_reads' hN7).2; have HB7 := Aside0.mk (below_then HB.out HB.out.size hb7); have HD7 := Aside0.mk (Kd.R_below HD.out hb7); clear hN7 hb7 hn0 hn1) | (go_at_call 70; refine (spec_l3At.calls k AX cX x1 A7 c7 e7 t _ HL7.out.2 HL7.out.1 (Kd.C_below HE9.out.2 HB7.out) HE9.out.1 HAT.out).mono ?_; rintro e w8 ⟨rfl, hd8⟩; have HB8 := Aside0.mk (below_then HB7.out HB7.out.size hd8.below); have HD8 := Aside0.mk (Kd.R_below HD7.out hd8.below); clear hd8))
                      go_roundg d
                      case measure => omega
                      case rel => exact ⟨wrap64 (y + 1), j + 1, _, rfl, ⟨HW.out⟩, ⟨by have := HJ.out; omega⟩, HFL, HRN, HD8, HB8⟩
                  | succ d2 =>
                    have hil : i < l0_1.length := by have := HI.out; omega
                    have hzb : decide (z < (l0_1.length : Int)) = true := decide_eq_true (by have := HI.out; have := HZ.out; omega)
                    have pz : 0 ≤ z := by have := HZ.out; omega
                    have qz : z < (l0_1.length : Int) := by have := HZ.out; omega
                    obtain ⟨hfi, hfi'⟩ : ∃ b, spec_l3Fire.f k (rd_T60 l0_1 z).f0 (rd_T60 l0_1 z).f1 row = some b ∧ spFires k l0_1 row d2 (fs.set z.toNat (rdOf false fs z || b.2)) = some fs' := by
                      have h := HFI.out
                      simp only [spFires] at h
                      rw [show l0_1.length - (d2 + 1) = i by have := HI.out; omega, ← HZ.out] at h
                      exact Option.bind_eq_some_iff.1 h
                    obtain ⟨z1, z2⟩ := hfi
                    have HF1 := Aside0.mk hfi'.1
                    have HF2 := Aside0.mk hfi'.2
                    clear hfi' HFI
                    obtain ⟨aS, B0, d0, B1, d1, eS, hx0, hx1, hd0, hi0, hd1, hi1⟩ := at_T60 (Kd.C_below HST.out HB.out) z pz qz
                    subst eS
                    obtain ⟨s, hs⟩ : ∃ s, s = rd_T60 l0_1 z := ⟨_, rfl⟩
                    rw [← hs] at hx0 hx1 hd0 hi0 hd1 hi1 HF1
                    have HA := Aside0.mk (below_alloc (Below.refl wr.heap.size wr) (.cells #[.slice B0 s.f0.length d0, .slice B1 s.f1.length d1] 60))
                    have HI0 := Aside0.mk (show s.f0.length ≤ d0 ∧ Kd.C (Kd.int .i64) (World.alloc wr (.cells #[.slice B0 s.f0.length d0, .slice B1 s.f1.length d1] 60)) B0 s.f0.length s.f0 from ⟨hd0, Kd.C_below hi0 HA.out⟩)
                    have HI1 := Aside0.mk (show s.f1.length ≤ d1 ∧ Kd.C (Kd.int .i64) (World.alloc wr (.cells #[.slice B0 s.f0.length d0, .slice B1 s.f1.length d1] 60)) B1 s.f1.length s.f1 from ⟨hd1, Kd.C_below hi1 HA.out⟩)
                    have HW2 := Aside0.mk (show wrap64 (z + 1) = ((i + 1 : Nat) : Int) by unfold wrap64; have := HI.out; have := HG.out; have := HZ.out; omega)
                    obtain ⟨g, cap, hv, hg1, hg2, -⟩ := Kd.R_form HD.out (by have := HFL.out; omega)
                    injection hv with hA1 hA2 hA3
                    subst hA1
                    clear hA2
                    have HGW := Aside0.mk hg1
                    have nx0 := World.new_ne wr _ hx0
                    have nx1 := World.new_ne wr _ hx1
                    replace pz := eq_true pz
                    replace qz := eq_true qz
                    clear hd0 hi0 hd1 hi1 hs hil hA3 hg1 hg2
                    cases hb1 : rdOf false fs z with
                    | true =>
                      rw [hb1] at HF2
                      go_wp2_with (first | (go_at_call 57; refine (spec_l3Fire.calls k B0 d0 s.f0 B1 d1 s.f1 (some aB) dd row z1 z2 _ HI0.out.2 HI0.out.1 HI1.out.2 HI1.out.1 (Kd.C_below HCr.out HA.out) HDR.out HF1.out).mono ?_; rintro e w6 ⟨v6, rfl, -, hb6⟩; have HB6 := Aside0.mk (below_then (below_then HB.out HB.out.size HA.out) (Nat.le_trans HB.out.size HA.out.size) hb6); have HS6 := Aside0.mk (below_then HA.out HA.out.size hb6); have HD6 := Aside0.mk (Kd.R_below HD.out HS6.out); have HC6 := Aside0.mk (Kd.C_below HCr.out HS6.out); have HP := Aside0.mk (Kd.R_putg HD6.out z true); obtain ⟨hxf, hff⟩ := Kd.R_celln false HD6.out z (of_eq_true pz) (of_eq_true qz); rw [hb1] at hxf; clear hb6 hx0 hx1 nx0 nx1 hn0 hn1) | ((with_reducible refine gate_store (t := 4) (p := 91) rfl ?_); refine store_event (t := 4) (p := 91) (v := ?vo_w5) (w1 := (w6.setCell ⟨g, z.toNat, none⟩ (.bool true))) ?hg ?ho ?hn ?hr ?_; (case ho => rfl); (case hg => rfl); (case hn => rfl); (case hr => first | (go_simp; done) | (go_simp; rfl)); intro w8 hw; have HG8 := Aside0.mk (show w6.grownBy w8 (some g) by rw [hw]; exact HP.out.2); have HD8 := Aside0.mk (show Kd.R Kd.bool 4 w8 w9.heap.size (fun _ => True) (.slice (some ⟨g, 0, none⟩) l0_1.length cF) (fs.set z.toNat true) by rw [hw]; exact HP.out.1); have HB8 := Aside0.mk (show Below w9.heap.size w9 w8 by rw [hw]; exact below_set HB6.out HGW.out); clear hw hxf hff))
                      go_roundg d2
                      case measure => omega
                      case rel => exact ⟨wrap64 (z + 1), i + 1, _, rfl, ⟨HW2.out⟩, ⟨by have := HI.out; omega⟩, ⟨by rw [List.length_set]; exact HFL.out⟩, ⟨by simpa using HF2.out⟩, HD8, HB8⟩
                    | false =>
                      rw [hb1] at HF2
                      go_wp2_with (first | (go_at_call 57; refine (spec_l3Fire.calls k B0 d0 s.f0 B1 d1 s.f1 (some aB) dd row z1 z2 _ HI0.out.2 HI0.out.1 HI1.out.2 HI1.out.1 (Kd.C_below HCr.out HA.out) HDR.out HF1.out).mono ?_; rintro e w6 ⟨v6, rfl, -, hb6⟩; have HB6 := Aside0.mk (below_then (below_then HB.out HB.out.size HA.out) (Nat.le_trans HB.out.size HA.out.size) hb6); have HS6 := Aside0.mk (below_then HA.out HA.out.size hb6); have HD6 := Aside0.mk (Kd.R_below HD.out HS6.out); have HC6 := Aside0.mk (Kd.C_below HCr.out HS6.out); have HP := Aside0.mk (Kd.R_putg HD6.out z z2); obtain ⟨hxf, hff⟩ := Kd.R_celln false HD6.out z (of_eq_true pz) (of_eq_true qz); rw [hb1] at hxf; clear hb6 hx0 hx1 nx0 nx1 hn0 hn1) | ((with_reducible refine gate_store (t := 4) (p := 91) rfl ?_); refine store_event (t := 4) (p := 91) (v := ?vo_w5) (w1 := (w6.setCell ⟨g, z.toNat, none⟩ (.bool z2))) ?hg ?ho ?hn ?hr ?_; (case ho => rfl); (case hg => rfl); (case hn => rfl); (case hr => first | (go_simp; done) | (go_simp; rfl)); intro w8 hw; have HG8 := Aside0.mk (show w6.grownBy w8 (some g) by rw [hw]; exact HP.out.2); have HD8 := Aside0.mk (show Kd.R Kd.bool 4 w8 w9.heap.size (fun _ => True) (.slice (some ⟨g, 0, none⟩) l0_1.length cF) (fs.set z.toNat z2) by rw [hw]; exact HP.out.1); have HB8 := Aside0.mk (show Below w9.heap.size w9 w8 by rw [hw]; exact below_set HB6.out HGW.out); clear hw hxf hff))
                      go_roundg d2
                      case measure => omega
                      case rel => exact ⟨wrap64 (z + 1), i + 1, _, rfl, ⟨HW2.out⟩, ⟨by have := HI.out; omega⟩, ⟨by rw [List.length_set]; exact HFL.out⟩, ⟨by simpa using HF2.out⟩, HD8, HB8⟩
            · rw [if_neg c] at hR
              have cb : decide (rd row (wrap64 (a0_0 - 1)) > 0) = false := decide_eq_false c
              clear c
              simp only [Option.bind_some, if_true] at hR
              obtain ⟨fs', hfi, hR⟩ := Option.bind_eq_some_iff.1 hR
              have HFI := Aside0.mk hfi
              have HRW' := Aside0.mk hR
              clear hfi hR HRW
              go_wp2
              go_loopg [71] l0_1.length (fun kq v71 w' => ∃ (z : Int) (i : Nat) (fs : List Bool), v71 = .int .i64 z ∧ Aside0 (z = (i : Int)) ∧ Aside0 (i + kq = l0_1.length) ∧ Aside0 (fs.length = l0_1.length) ∧ Aside0 (spFires k l0_1 row kq fs = some fs') ∧ Aside0 (Kd.R Kd.bool 4 w' w9.heap.size (fun _ => True) (.slice AF l0_1.length cF) fs) ∧ Aside0 (Below w9.heap.size w9 w'))
              case atStart => exact ⟨0, 0, fs, rfl, ⟨rfl⟩, ⟨by simp⟩, HFL, HFI, HD, HB⟩
              case round =>
                clear HD HB HFI HFL HCr hn0 hn1 hxr hxB
                obtain ⟨z, i, fs, rfl, HZ, HI, HFL, HFI, HD, HB⟩ := hrel
                have HCr := Aside0.mk (Kd.C_below HCR9.out HB.out)
                have hn0 : wr.cell? ⟨gb, 0, none⟩ = some (.int .i64 a0_0) := (blk_cell (blk_below BK9.out HB.out) 0).trans rfl
                have hn1 : wr.cell? ⟨gb, 1, none⟩ = some (.slice A0_1 l0_1.length c0_1) := (blk_cell (blk_below BK9.out HB.out) 1).trans rfl
                cases gk with
                | zero =>
                  have hzb : decide (z < (l0_1.length : Int)) = false := decide_eq_false (by have := HI.out; have := HZ.out; omega)
                  have hfi := HFI.out
                  simp only [spFires] at hfi
                  obtain rfl := Option.some.inj hfi
                  obtain ⟨⟨x1, x2, x3⟩, hx, hR⟩ := Option.bind_eq_some_iff.1 HRW'.out
                  obtain ⟨t, ht, hR⟩ := Option.bind_eq_some_iff.1 hR
                  have HX := Aside0.mk hx
                  have HAT := Aside0.mk ht
                  clear hfi hx ht HRW'
                  by_cases ct : t < 0
                  · rw [if_pos ct] at hR
                    obtain rfl := Option.some.inj hR
                    have hF := HF.out
                    simp only [Option.some.injEq, Prod.mk.injEq] at hF
                    obtain ⟨rfl, rfl⟩ := hF
                    have ctb : decide (t < 0) = true := decide_eq_true ct
                    clear ct hR
                    go_wp2_with (first | (go_at_call 66; refine (spec_l3From.calls k a0_0 A0_1 c0_1 l0_1 (some aB) dd row x1 x2 x3 _ (Kd.C_below HST.out HB.out) HC0_1.out HCr.out HDR.out HX.out).mono ?_; rintro e w7 ⟨v7, u7, rfl, hN7, -, hb7⟩; obtain ⟨AX, cX, hv7⟩ := Kd.N_slice hN7; subst hv7; have HL7 := Aside0.mk (Kd.N_reads' hN7).2; have HB7 := Aside0.mk (below_then HB.out HB.out.size hb7); have HD7 := Aside0.mk (Kd.R_below HD.out hb7); clear hN7 hb7 hn0 hn1) | (go_at_call 70; refine (spec_l3At.calls k AX cX x1 A7 c7 e7 t _ HL7.out.2 HL7.out.1 (Kd.C_below HE9.out.2 HB7.out) HE9.out.1 HAT.out).mono ?_; rintro e w8 ⟨rfl, hd8⟩; have HB8 := Aside0.mk (below_then HB7.out HB7.out.size hd8.below); have HD8 := Aside0.mk (Kd.R_below HD7.out hd8.below); clear hd8))
                    go_ret2
                    exact ⟨rfl, below_then HWW.out HWW.out.size HB8.out⟩
                  · rw [if_neg ct] at hR
                    have HRN := Aside0.mk hR
                    have ctb : decide (t < 0) = false := decide_eq_false ct
                    clear ct hR
                    go_wp2_with (first | (go_at_call 66; refine (spec_l3From.calls k a0_0 A0_1 c0_1 l0_1 (some aB) dd row x1 x2 x3 _ (Kd.C_below HST.out HB.out) HC0_1.out HCr.out HDR.out HX.out).mono ?_; rintro e w7 ⟨v7, u7, rfl, hN7, -, hb7⟩; obtain ⟨AX, cX, hv7⟩ := Kd.N_slice hN7; subst hv7; have HL7 := Aside0.mk (Kd.N_reads' hN7).2; have HB7 := Aside0.mk (below_then HB.out HB.out.size hb7); have HD7 := Aside0.mk (Kd.R_below HD.out hb7); clear hN7 hb7 hn0 hn1) | (go_at_call 70; refine (spec_l3At.calls k AX cX x1 A7 c7 e7 t _ HL7.out.2 HL7.out.1 (Kd.C_below HE9.out.2 HB7.out) HE9.out.1 HAT.out).mono ?_; rintro e w8 ⟨rfl, hd8⟩; have HB8 := Aside0.mk (below_then HB7.out HB7.out.size hd8.below); have HD8 := Aside0.mk (Kd.R_below HD7.out hd8.below); clear hd8))
                    go_roundg d
                    case measure => omega
                    case rel => exact ⟨wrap64 (y + 1), j + 1, _, rfl, ⟨HW.out⟩, ⟨by have := HJ.out; omega⟩, HFL, HRN, HD8, HB8⟩
                | succ d2 =>
                  have hil : i < l0_1.length := by have := HI.out; omega
                  have hzb : decide (z < (l0_1.length : Int)) = true := decide_eq_true (by have := HI.out; have := HZ.out; omega)
                  have pz : 0 ≤ z := by have := HZ.out; omega
                  have qz : z < (l0_1.length : Int) := by have := HZ.out; omega
                  obtain ⟨hfi, hfi'⟩ : ∃ b, spec_l3Fire.f k (rd_T60 l0_1 z).f0 (rd_T60 l0_1 z).f1 row = some b ∧ spFires k l0_1 row d2 (fs.set z.toNat (rdOf false fs z || b.2)) = some fs' := by
                    have h := HFI.out
                    simp only [spFires] at h
                    rw [show l0_1.length - (d2 + 1) = i by have := HI.out; omega, ← HZ.out] at h
                    exact Option.bind_eq_some_iff.1 h
                  obtain ⟨z1, z2⟩ := hfi
                  have HF1 := Aside0.mk hfi'.1
                  have HF2 := Aside0.mk hfi'.2
                  clear hfi' HFI
                  obtain ⟨aS, B0, d0, B1, d1, eS, hx0, hx1, hd0, hi0, hd1, hi1⟩ := at_T60 (Kd.C_below HST.out HB.out) z pz qz
                  subst eS
                  obtain ⟨s, hs⟩ : ∃ s, s = rd_T60 l0_1 z := ⟨_, rfl⟩
                  rw [← hs] at hx0 hx1 hd0 hi0 hd1 hi1 HF1
                  have HA := Aside0.mk (below_alloc (Below.refl wr.heap.size wr) (.cells #[.slice B0 s.f0.length d0, .slice B1 s.f1.length d1] 60))
                  have HI0 := Aside0.mk (show s.f0.length ≤ d0 ∧ Kd.C (Kd.int .i64) (World.alloc wr (.cells #[.slice B0 s.f0.length d0, .slice B1 s.f1.length d1] 60)) B0 s.f0.length s.f0 from ⟨hd0, Kd.C_below hi0 HA.out⟩)
                  have HI1 := Aside0.mk (show s.f1.length ≤ d1 ∧ Kd.C (Kd.int .i64) (World.alloc wr (.cells #[.slice B0 s.f0.length d0, .slice B1 s.f1.length d1] 60)) B1 s.f1.length s.f1 from ⟨hd1, Kd.C_below hi1 HA.out⟩)
                  have HW2 := Aside0.mk (show wrap64 (z + 1) = ((i + 1 : Nat) : Int) by unfold wrap64; have := HI.out; have := HG.out; have := HZ.out; omega)
                  obtain ⟨g, cap, hv, hg1, hg2, -⟩ := Kd.R_form HD.out (by have := HFL.out; omega)
                  injection hv with hA1 hA2 hA3
                  subst hA1
                  clear hA2
                  have HGW := Aside0.mk hg1
                  have nx0 := World.new_ne wr _ hx0
                  have nx1 := World.new_ne wr _ hx1
                  replace pz := eq_true pz
                  replace qz := eq_true qz
                  clear hd0 hi0 hd1 hi1 hs hil hA3 hg1 hg2
                  cases hb1 : rdOf false fs z with
                  | true =>
                    rw [hb1] at HF2
                    go_wp2_with (first | (go_at_call 57; refine (spec_l3Fire.calls k B0 d0 s.f0 B1 d1 s.f1 (some aB) dd row z1 z2 _ HI0.out.2 HI0.out.1 HI1.out.2 HI1.out.1 (Kd.C_below HCr.out HA.out) HDR.out HF1.out).mono ?_; rintro e w6 ⟨v6, rfl, -, hb6⟩; have HB6 := Aside0.mk (below_then (below_then HB.out HB.out.size HA.out) (Nat.le_trans HB.out.size HA.out.size) hb6); have HS6 := Aside0.mk (below_then HA.out HA.out.size hb6); have HD6 := Aside0.mk (Kd.R_below HD.out HS6.out); have HC6 := Aside0.mk (Kd.C_below HCr.out HS6.out); have HP := Aside0.mk (Kd.R_putg HD6.out z true); obtain ⟨hxf, hff⟩ := Kd.R_celln false HD6.out z (of_eq_true pz) (of_eq_true qz); rw [hb1] at hxf; clear hb6 hx0 hx1 nx0 nx1 hn0 hn1) | ((with_reducible refine gate_store (t := 4) (p := 91) rfl ?_); refine store_event (t := 4) (p := 91) (v := ?vo_w5) (w1 := (w6.setCell ⟨g, z.toNat, none⟩ (.bool true))) ?hg ?ho ?hn ?hr ?_; (case ho => rfl); (case hg => rfl); (case hn => rfl); (case hr => first | (go_simp; done) | (go_simp; rfl)); intro w8 hw; have HG8 := Aside0.mk (show w6.grownBy w8 (some g) by rw [hw]; exact HP.out.2); have HD8 := Aside0.mk (show Kd.R Kd.bool 4 w8 w9.heap.size (fun _ => True) (.slice (some ⟨g, 0, none⟩) l0_1.length cF) (fs.set z.toNat true) by rw [hw]; exact HP.out.1); have HB8 := Aside0.mk (show Below w9.heap.size w9 w8 by rw [hw]; exact below_set HB6.out HGW.out); clear hw hxf hff))
                    go_roundg d2
                    case measure => omega
                    case rel => exact ⟨wrap64 (z + 1), i + 1, _, rfl, ⟨HW2.out⟩, ⟨by have := HI.out; omega⟩, ⟨by rw [List.length_set]; exact HFL.out⟩, ⟨by simpa using HF2.out⟩, HD8, HB8⟩
                  | false =>
                    rw [hb1] at HF2
                    go_wp2_with (first | (go_at_call 57; refine (spec_l3Fire.calls k B0 d0 s.f0 B1 d1 s.f1 (some aB) dd row z1 z2 _ HI0.out.2 HI0.out.1 HI1.out.2 HI1.out.1 (Kd.C_below HCr.out HA.out) HDR.out HF1.out).mono ?_; rintro e w6 ⟨v6, rfl, -, hb6⟩; have HB6 := Aside0.mk (below_then (below_then HB.out HB.out.size HA.out) (Nat.le_trans HB.out.size HA.out.size) hb6); have HS6 := Aside0.mk (below_then HA.out HA.out.size hb6); have HD6 := Aside0.mk (Kd.R_below HD.out HS6.out); have HC6 := Aside0.mk (Kd.C_below HCr.out HS6.out); have HP := Aside0.mk (Kd.R_putg HD6.out z z2); obtain ⟨hxf, hff⟩ := Kd.R_celln false HD6.out z (of_eq_true pz) (of_eq_true qz); rw [hb1] at hxf; clear hb6 hx0 hx1 nx0 nx1 hn0 hn1) | ((with_reducible refine gate_store (t := 4) (p := 91) rfl ?_); refine store_event (t := 4) (p := 91) (v := ?vo_w5) (w1 := (w6.setCell ⟨g, z.toNat, none⟩ (.bool z2))) ?hg ?ho ?hn ?hr ?_; (case ho => rfl); (case hg => rfl); (case hn => rfl); (case hr => first | (go_simp; done) | (go_simp; rfl)); intro w8 hw; have HG8 := Aside0.mk (show w6.grownBy w8 (some g) by rw [hw]; exact HP.out.2); have HD8 := Aside0.mk (show Kd.R Kd.bool 4 w8 w9.heap.size (fun _ => True) (.slice (some ⟨g, 0, none⟩) l0_1.length cF) (fs.set z.toNat z2) by rw [hw]; exact HP.out.1); have HB8 := Aside0.mk (show Below w9.heap.size w9 w8 by rw [hw]; exact below_set HB6.out HGW.out); clear hw hxf hff))
                    go_roundg d2
                    case measure => omega
                    case rel => exact ⟨wrap64 (z + 1), i + 1, _, rfl, ⟨HW2.out⟩, ⟨by have := HI.out; omega⟩, ⟨by rw [List.length_set]; exact HFL.out⟩, ⟨by simpa using HF2.out⟩, HD8, HB8⟩

/-! ### impl_in: function 48 -/
def impl_in.f (a0 : Int) (a1 : Int) (a2 : Int) : Option (Bool) := if a0 ≥ a1 then (some (decide (a0 ≤ a2))) else (some false)
set_option maxHeartbeats 8000000 in
set_option maxRecDepth 100000 in
theorem impl_in.calls (a0 : Int) (a1 : Int) (a2 : Int) (r : Bool) (w : World) (h : impl_in.f a0 a1 a2 = some r) :
    Calls Try.prog 48 #[.int .i64 a0, .int .i64 a1, .int .i64 a2] w fun e w' => e = .returned (.bool r) ∧ Drawn0 w w' := by
  have H : (if a0 ≥ a1 then (some (decide (a0 ≤ a2))) else (some false)) = some r := h
  clear h
  by_cases c4 : a0 ≥ a1
  · rw [if_pos c4] at H
    have c4b0 : decide (a1 ≤ a0) = true := decide_eq_true c4
    clear c4
    obtain rfl := Option.some.inj H
    go_enter Try.func48, Try.ntmps48
    go_wp2
    go_ret
    exact ⟨by first | rfl | (simp; done) | (simp [*]; done), by repeat (first | exact Drawn0.refl _ | apply Drawn0.step)⟩
  · rw [if_neg c4] at H
    have c4b0 : decide (a1 ≤ a0) = false := decide_eq_false c4
    clear c4
    obtain rfl := Option.some.inj H
    go_enter Try.func48, Try.ntmps48
    go_wp2
    go_ret
    exact ⟨by first | rfl | (simp; done) | (simp [*]; done), by repeat (first | exact Drawn0.refl _ | apply Drawn0.step)⟩

/-! ### impl_Step: function 49, by hand; a text alone -/
/-- the first of which it is so, in turn -/
def anyO60 (p : S60 → Option Bool) : List S60 → Option Bool
  | [] => some false
  | x :: l => (p x).bind fun b => (if b = true then (some true) else (anyO60 p l))
theorem anyO60_mono {p q : S60 → Option Bool} (h : ∀ x, LeO (p x) (q x)) : ∀ l, LeO (anyO60 p l) (anyO60 q l)
  | [] => LeO.refl _
  | x :: l => LeO.bind (h x) (fun b => LeO.ite (LeO.refl _) (anyO60_mono h l))
set_option maxHeartbeats 8000000 in
set_option maxRecDepth 100000 in
theorem slices_IndexFunc_Step.at (g : Nat) (eg : ∀ args W, (callFunc g args).run Try.prog W = .ok (.enter g args) W) (lb : Array Value) (p : S60 → Option Bool) (A0 : Option Addr) (c0 : Nat) (l0 : List S60) (r : Bool) (w : World) (hr0 : Kd.C k60 w A0 l0.length l0)
    (hp : ∀ (W : World) (x : S60) (B0 : Option Addr) (d0 : Nat) (B1 : Option Addr) (d1 : Nat) (b : Bool), Below w.heap.size w W → Kd.C (Kd.int .i64) W B0 x.f0.length x.f0 → x.f0.length ≤ d0 → Kd.C (Kd.int .i64) W B1 x.f1.length x.f1 → x.f1.length ≤ d1 → p x = some b → Calls Try.prog g (#[.agg #[.slice B0 x.f0.length d0, .slice B1 x.f1.length d1]] ++ lb) W fun e w' => e = .returned (.bool b) ∧ Below W.heap.size W w')
    (h : anyO60 p l0 = some r) :
    Calls Try.prog 79 #[.slice A0 l0.length c0, .func (.func g) #[] lb] w fun e w' => ∃ n : Int, e = .returned (.int .i64 n) ∧ decide (0 ≤ n) = r ∧ Below w.heap.size w w' := by
  have HR0 := Aside0.mk hr0
  have hl := hr0.2.1
  have HP := Aside0.mk hp
  have H := Aside0.mk h
  clear hr0 hp h
  go_enter Try.func79, Try.ntmps79
  go_wp2_with fail
  go_loopg [8] l0.length (fun kq v8 w' => ∃ x8 : Int, v8 = .int .i64 x8 ∧ Aside0 (0 ≤ x8 ∧ x8.toNat + kq = l0.length) ∧ Aside0 (anyO60 p (l0.drop x8.toNat) = some r) ∧ Aside0 (Below w.heap.size w w'))
  case atStart => exact ⟨0, rfl, ⟨by omega, by simp⟩, ⟨H.out⟩, ⟨Below.refl _ _⟩⟩
  case round =>
    clear H
    obtain ⟨x8, rfl, HJ, HA, HB⟩ := hrel
    by_cases hlt : x8 < (l0.length : Int)
    · have p8 : 0 ≤ x8 := HJ.out.1
      obtain ⟨ad, B0, d0, B1, d1, e0, hx0, hx1, hl0, hi0, hl1, hi1⟩ := at_T60 (Kd.C_below HR0.out HB.out) x8 p8 hlt
      cases e0
      have HD := Aside0.mk (show l0.drop x8.toNat = rd_T60 l0 x8 :: l0.drop (x8.toNat + 1) by
        unfold rd_T60
        have hlt2 : x8.toNat < l0.length := by omega
        rw [List.drop_eq_getElem_cons hlt2, List.getD_eq_getElem?_getD, List.getElem?_eq_getElem hlt2]; rfl)
      have H2 := HA.out
      rw [HD.out] at H2
      obtain ⟨b, hb, H2⟩ := Option.bind_eq_some_iff.mp H2
      have HC := Aside0.mk (HP.out wr (rd_T60 l0 x8) B0 d0 B1 d1 b HB.out hi0 hl0 hi1 hl1 hb)
      have H3 := Aside0.mk H2
      clear hi0 hi1 hl0 hl1 hb H2 HA HD
      have hltb : decide (x8 < (l0.length : Int)) = true := decide_eq_true hlt
      have HJ2 := Aside0.mk hlt
      replace p8 := eq_true p8
      have q8 := eq_true hlt
      clear hlt
      go_wp2_with fail
      refine HC.out.mono ?_
      rintro e w1 ⟨rfl, hb1⟩
      have HB1 := Aside0.mk (below_then HB.out HB.out.size hb1)
      clear hb1 HC
      cases b with
      | true =>
        have H4 := H3.out
        rw [if_pos rfl] at H4
        obtain rfl := Option.some.inj H4
        go_wp2
        go_ret
        exact ⟨x8, rfl, decide_eq_true HJ.out.1, HB1.out⟩
      | false =>
        have H4 := H3.out
        rw [if_neg (by decide)] at H4
        have H5 := Aside0.mk H4
        clear H3 H4
        cases gk with
        | zero => exact absurd HJ.out.2 (by have := HJ2.out; have := HJ.out.1; omega)
        | succ k1 =>
          have HW := Aside0.mk (show wrap64 (x8 + 1) = x8 + 1 by unfold wrap64; have := HJ2.out; have := HJ.out.1; omega)
          go_wp2
          go_roundg k1
          case measure => omega
          case rel =>
            refine ⟨wrap64 (x8 + 1), rfl, ⟨?_, ?_⟩, ⟨?_⟩, ⟨HB1.out⟩⟩
            · rw [HW.out]; have := HJ.out.1; omega
            · rw [HW.out]; have := HJ.out; omega
            · rw [HW.out, show (x8 + 1).toNat = x8.toNat + 1 by have := HJ.out.1; omega]; exact H5.out
    · have e0 : l0.drop x8.toNat = [] := List.drop_of_length_le (by have := HJ.out; omega)
      have H2 := HA.out
      rw [e0] at H2
      obtain rfl := Option.some.inj H2
      have hltb : decide (x8 < (l0.length : Int)) = false := decide_eq_false hlt
      clear hlt e0 H2 HA
      go_wp2
      go_ret
      exact ⟨-1, rfl, rfl, HB.out⟩
set_option maxHeartbeats 8000000 in
theorem slices_ContainsFunc_Step.at (g : Nat) (eg : ∀ args W, (callFunc g args).run Try.prog W = .ok (.enter g args) W) (lb : Array Value) (p : S60 → Option Bool) (A0 : Option Addr) (c0 : Nat) (l0 : List S60) (r : Bool) (w : World) (hr0 : Kd.C k60 w A0 l0.length l0)
    (hp : ∀ (W : World) (x : S60) (B0 : Option Addr) (d0 : Nat) (B1 : Option Addr) (d1 : Nat) (b : Bool), Below w.heap.size w W → Kd.C (Kd.int .i64) W B0 x.f0.length x.f0 → x.f0.length ≤ d0 → Kd.C (Kd.int .i64) W B1 x.f1.length x.f1 → x.f1.length ≤ d1 → p x = some b → Calls Try.prog g (#[.agg #[.slice B0 x.f0.length d0, .slice B1 x.f1.length d1]] ++ lb) W fun e w' => e = .returned (.bool b) ∧ Below W.heap.size W w')
    (h : anyO60 p l0 = some r) :
    Calls Try.prog 49 #[.slice A0 l0.length c0, .func (.func g) #[] lb] w fun e w' => e = .returned (.bool r) ∧ Below w.heap.size w w' := by
  have H := Aside0.mk (slices_IndexFunc_Step.at g eg lb p A0 c0 l0 r w hr0 hp h)
  clear hp hr0 eg h
  go_enter Try.func49, Try.ntmps49
  go_wp2_with fail
  refine H.out.mono ?_
  rintro e w1 ⟨n, rfl, hr, hb⟩
  have HR := Aside0.mk hr
  have HB := Aside0.mk hb
  clear hr hb
  go_wp2
  go_ret
  exact ⟨by rw [← HR.out]; rfl, HB.out⟩

end Go.Proofs.Ytnfafdlglhbijaa.PFnExactIsSound
