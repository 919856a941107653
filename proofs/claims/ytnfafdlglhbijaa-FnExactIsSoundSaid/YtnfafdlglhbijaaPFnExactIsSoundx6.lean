-- written by xprint.py (a program of this session's, over the kit's print): printed functions, and some by hand
import Derived.Test.YtnfafdlglhbijaaPFnExactIsSoundx0
import Derived.Test.YtnfafdlglhbijaaPFnExactIsSoundx5
namespace Go.Proofs.Ytnfafdlglhbijaa.PFnExactIsSound
open Go.RowKit Go.Proofs.YtnfafdlglhbijaaW.PrintWords Go.Proofs.YtnfafdlglhbijaaW.PrintLast Go.Proofs.YtnfafdlglhbijaaW.PrintMore
attribute [local go_sem] max2_int min2_int max_two min_two max_three min_three max_four min_four   -- for this text's walks alone
set_option linter.unusedVariables false
set_option linter.unusedSimpArgs false

/-! ### impl_rising: function 51 -/
def impl_rising.l0 : Nat → List Int → Int → List Int → Int → Int → Option (Bool)
  | 0, _, _, _, _, _ => none
  | k + 1, x0, x1, x7, x8, x9 => if x9 < x8 then (if 0 ≤ x9 then (if x9 < (x7.length : Int) then ((impl_in.f (rd x7 x9) 0 (wrap64 (x1 - 1))).bind fun t221 => (if t221 = true then (if x9 > 0 then (if 0 ≤ (wrap64 (x9 - 1)) then (if (wrap64 (x9 - 1)) < (x0.length : Int) then (if (rd x0 (wrap64 (x9 - 1))) ≥ (rd x7 x9) then (some false) else (impl_rising.l0 k x0 x1 x7 x8 (wrap64 (x9 + 1)))) else (none)) else (none)) else (impl_rising.l0 k x0 x1 x7 x8 (wrap64 (x9 + 1)))) else (some false))) else (none)) else (none)) else (some true)
def impl_rising.f (k : Nat) (l0 : List Int) (a1 : Int) : Option (Bool) := impl_rising.l0 k l0 a1 l0 (l0.length : Int) 0
theorem impl_rising.mono_l : ∀ k, (∀ y0 y1 y2 y3 y4, LeO (impl_rising.l0 k y0 y1 y2 y3 y4) (impl_rising.l0 (k + 1) y0 y1 y2 y3 y4))
  | 0 => fun _ _ _ _ _ r h => by simp [impl_rising.l0] at h
  | k + 1 => by
    have ih0 := impl_rising.mono_l k
    · intro y0 y1 y2 y3 y4
      unfold impl_rising.l0
      repeat' first
      | (with_reducible exact ih0 _ _ _ _ _)
      | (with_reducible exact LeO.refl _)
      | (with_reducible exact LeO.none _)
      | (with_reducible refine LeO.ite ?_ ?_)
      | (with_reducible refine LeO.bind ?_ (fun _ => ?_))
      | exact ih0 _ _ _ _ _
      | exact LeO.none _
      | refine LeO.ite ?_ ?_
      | refine LeO.bind ?_ (fun _ => ?_)
theorem impl_rising.mono : ∀ a0 a1 k, LeO (impl_rising.f k a0 a1) (impl_rising.f (k + 1) a0 a1) := by
  intro a0 a1 k
  have ih0 := impl_rising.mono_l k
  unfold impl_rising.f
  repeat' first
      | (with_reducible exact ih0 _ _ _ _ _)
      | (with_reducible exact LeO.refl _)
      | (with_reducible exact LeO.none _)
      | (with_reducible refine LeO.ite ?_ ?_)
      | (with_reducible refine LeO.bind ?_ (fun _ => ?_))
      | exact ih0 _ _ _ _ _
      | exact LeO.none _
      | refine LeO.ite ?_ ?_
      | refine LeO.bind ?_ (fun _ => ?_)
set_option maxHeartbeats 8000000 in
set_option maxRecDepth 100000 in
theorem impl_rising.calls (k : Nat) (A0 : Option Addr) (c0 : Nat) (l0 : List Int) (a1 : Int) (r : Bool) (w : World) (hr0 : Kd.C (Kd.int .i64) w A0 l0.length l0) (hc0 : l0.length ≤ c0) (h : impl_rising.f k l0 a1 = some r) :
    Calls Try.prog 51 #[.slice A0 l0.length c0, .int .i64 a1] w fun e w' => e = .returned (.bool r) ∧ Drawn0 w w' := by
  have HR0 := Aside0.mk hr0
  have HC0 := Aside0.mk hc0
  clear hr0 hc0
  have H : (impl_rising.l0 k l0 a1 l0 (l0.length : Int) 0) = some r := h
  clear h
  have H' := Aside0.mk H
  clear H
  go_enter Try.func51, Try.ntmps51
  go_wp2
  go_loopg [9] k (fun kq v9 w' => ∃ (x9_1 : Int), v9 = .int .i64 x9_1 ∧ Aside0 (impl_rising.l0 kq l0 a1 l0 (l0.length : Int) x9_1 = some r) ∧ Aside0 (kq ≤ k) ∧ Drawn0 w w')
  case atStart => exact ⟨(0), (by first | rfl | (simp; done) | (simp [*]; done) | (simp; exact (fun l : List UInt8 => (by cases l <;> rfl : l.isEmpty = !(l != []))) _)), H', ⟨Nat.le_refl _⟩, by repeat (first | exact Drawn0.refl _ | apply Drawn0.step)⟩
  case round =>
    clear H'
    try clear p2
    obtain ⟨x9_1, rfl, HA, HK1, ⟨m1, rfl⟩⟩ := hrel
    cases gk with
    | zero => exact absurd HA.out (by simp [impl_rising.l0])
    | succ k1 =>
      have H := HA.out
      clear HA
      simp only [impl_rising.l0] at H
      by_cases c3 : x9_1 < (l0.length : Int)
      · rw [if_pos c3] at H
        have c3b0 : decide (x9_1 < (l0.length : Int)) = true := decide_eq_true c3
        clear c3
        by_cases c4 : 0 ≤ x9_1
        · rw [if_pos c4] at H
          have c4b0 : decide (0 ≤ x9_1) = true := decide_eq_true c4
          clear c4
          by_cases c5 : x9_1 < (l0.length : Int)
          · rw [if_pos c5] at H
            have c5b0 : decide (x9_1 < (l0.length : Int)) = true := decide_eq_true c5
            clear c5
            replace H := Option.bind_eq_some_iff.mp H
            obtain ⟨t221, A60, H⟩ := H
            replace H : (if t221 = true then (if x9_1 > 0 then (if 0 ≤ (wrap64 (x9_1 - 1)) then (if (wrap64 (x9_1 - 1)) < (l0.length : Int) then (if (rd l0 (wrap64 (x9_1 - 1))) ≥ (rd l0 x9_1) then (some false) else (impl_rising.l0 k1 l0 a1 l0 (l0.length : Int) (wrap64 (x9_1 + 1)))) else (none)) else (none)) else (impl_rising.l0 k1 l0 a1 l0 (l0.length : Int) (wrap64 (x9_1 + 1)))) else (some false)) = some r := H
            have A6 := Aside0.mk A60
            clear A60
            by_cases c7 : t221 = true
            · subst c7
              have H1 : (if x9_1 > 0 then (if 0 ≤ (wrap64 (x9_1 - 1)) then (if (wrap64 (x9_1 - 1)) < (l0.length : Int) then (if (rd l0 (wrap64 (x9_1 - 1))) ≥ (rd l0 x9_1) then (some false) else (impl_rising.l0 k1 l0 a1 l0 (l0.length : Int) (wrap64 (x9_1 + 1)))) else (none)) else (none)) else (impl_rising.l0 k1 l0 a1 l0 (l0.length : Int) (wrap64 (x9_1 + 1)))) = some r := by rw [if_pos rfl] at H; exact H
              clear H
              have H := H1
              clear H1
              by_cases c8 : x9_1 > 0
              · rw [if_pos c8] at H
                have c8b0 : decide (0 < x9_1) = true := decide_eq_true c8
                clear c8
                obtain ⟨ji9, hji9⟩ : ∃ j_ : Int, (wrap64 (x9_1 - 1)) = j_ := ⟨_, rfl⟩
                replace H : (if 0 ≤ (ji9) then (if (ji9) < (l0.length : Int) then (if (rd l0 (ji9)) ≥ (rd l0 x9_1) then (some false) else (impl_rising.l0 k1 l0 a1 l0 (l0.length : Int) (wrap64 (x9_1 + 1)))) else (none)) else (none)) = some r := by first | (rw [hji9] at H; exact H) | (simp only [hji9] at H ⊢; exact H)
                (try rw [hji9] at A6)
                have hji9w : (IntKind.i64.wrap (x9_1 - 1)) = ji9 := (i64_w _).trans hji9
                by_cases c10 : 0 ≤ (ji9)
                · rw [if_pos c10] at H
                  have c10b0 : decide (0 ≤ (ji9)) = true := decide_eq_true c10
                  clear c10
                  by_cases c11 : (ji9) < (l0.length : Int)
                  · rw [if_pos c11] at H
                    have c11b0 : decide ((ji9) < (l0.length : Int)) = true := decide_eq_true c11
                    clear c11
                    by_cases c12 : (rd l0 (ji9)) ≥ (rd l0 x9_1)
                    · rw [if_pos c12] at H
                      have c12b0 : decide ((rd l0 x9_1) ≤ (rd l0 (ji9))) = true := decide_eq_true c12
                      clear c12
                      obtain rfl := Option.some.inj H
                      have p220 : 0 ≤ (x9_1 : Int) := of_decide_eq_true (by first | (with_reducible assumption) | assumption)
                      have q220 : x9_1 < (l0.length : Int) := of_decide_eq_true (by first | (with_reducible assumption) | assumption)
                      obtain ⟨ad220, e220, hx220_0⟩ := Kd.at_int HR0.out x9_1 p220 q220
                      cases e220
                      replace p220 := eq_true p220
                      replace q220 := eq_true q220
                      go_wp2_with (first | ((with_reducible refine gate_callee (f := 48) rfl ?_); refine goesL_ (some 17) rfl rfl Try.func48 (by kernel_rfl) rfl #[.int .i64 (rd l0 x9_1), .int .i64 0, .int .i64 (wrap64 (a1 - 1))] rfl (by (try simp only [List.map_toArray, List.map_cons, List.map_nil]); first | done | rfl | (simp only [List.length_drop, List.length_take]; rfl)) ?_; (with_reducible refine (impl_in.calls (rd l0 x9_1) 0 (wrap64 (a1 - 1)) true _ A6.out).mono ?_); rintro e w' ⟨rfl, ⟨nd, rfl⟩⟩; refine ⟨_, rfl, ?_⟩; have p222 : 0 ≤ ((ji9) : Int) := of_decide_eq_true (by first | (with_reducible assumption) | assumption); have q222 : (ji9) < (l0.length : Int) := of_decide_eq_true (by first | (with_reducible assumption) | assumption); obtain ⟨ad222, e222, hx222_0⟩ := Kd.at_int HR0.out (ji9) p222 q222; obtain rfl : ad220 = ad222 := (by injection e222); replace p222 := eq_true p222; replace q222 := eq_true q222))
                      go_ret
                      exact ⟨by first | rfl | (simp; done) | (simp only [← hji9] <;> (first | rfl | simp)) | (simp [*]; done), by repeat (first | exact Drawn0.refl _ | apply Drawn0.step)⟩
                    · rw [if_neg c12] at H
                      have c12b0 : decide ((rd l0 x9_1) ≤ (rd l0 (ji9))) = false := decide_eq_false c12
                      clear c12
                      have H' := Aside0.mk H
                      clear H
                      have p220 : 0 ≤ (x9_1 : Int) := of_decide_eq_true (by first | (with_reducible assumption) | assumption)
                      have q220 : x9_1 < (l0.length : Int) := of_decide_eq_true (by first | (with_reducible assumption) | assumption)
                      obtain ⟨ad220, e220, hx220_0⟩ := Kd.at_int HR0.out x9_1 p220 q220
                      cases e220
                      replace p220 := eq_true p220
                      replace q220 := eq_true q220
                      go_wp2_with (first | ((with_reducible refine gate_callee (f := 48) rfl ?_); refine goesL_ (some 17) rfl rfl Try.func48 (by kernel_rfl) rfl #[.int .i64 (rd l0 x9_1), .int .i64 0, .int .i64 (wrap64 (a1 - 1))] rfl (by (try simp only [List.map_toArray, List.map_cons, List.map_nil]); first | done | rfl | (simp only [List.length_drop, List.length_take]; rfl)) ?_; (with_reducible refine (impl_in.calls (rd l0 x9_1) 0 (wrap64 (a1 - 1)) true _ A6.out).mono ?_); rintro e w' ⟨rfl, ⟨nd, rfl⟩⟩; refine ⟨_, rfl, ?_⟩; have p222 : 0 ≤ ((ji9) : Int) := of_decide_eq_true (by first | (with_reducible assumption) | assumption); have q222 : (ji9) < (l0.length : Int) := of_decide_eq_true (by first | (with_reducible assumption) | assumption); obtain ⟨ad222, e222, hx222_0⟩ := Kd.at_int HR0.out (ji9) p222 q222; obtain rfl : ad220 = ad222 := (by injection e222); replace p222 := eq_true p222; replace q222 := eq_true q222))
                      go_roundg k1
                      case measure => have := HK1.out; omega
                      case rel => exact ⟨(wrap64 (x9_1 + 1)), (by first | rfl | (simp; done) | (simp [*]; done) | (simp; exact (fun l : List UInt8 => (by cases l <;> rfl : l.isEmpty = !(l != []))) _)), H', ⟨by have := HK1.out; omega⟩, by repeat (first | exact Drawn0.refl _ | apply Drawn0.step)⟩
                  · rw [if_neg c11] at H
                    exact absurd H (by simp)
                · rw [if_neg c10] at H
                  exact absurd H (by simp)
              · rw [if_neg c8] at H
                have c8b0 : decide (0 < x9_1) = false := decide_eq_false c8
                clear c8
                have H' := Aside0.mk H
                clear H
                have p220 : 0 ≤ (x9_1 : Int) := of_decide_eq_true (by first | (with_reducible assumption) | assumption)
                have q220 : x9_1 < (l0.length : Int) := of_decide_eq_true (by first | (with_reducible assumption) | assumption)
                obtain ⟨ad220, e220, hx220_0⟩ := Kd.at_int HR0.out x9_1 p220 q220
                cases e220
                replace p220 := eq_true p220
                replace q220 := eq_true q220
                go_wp2_with (first | ((with_reducible refine gate_callee (f := 48) rfl ?_); refine goesL_ (some 17) rfl rfl Try.func48 (by kernel_rfl) rfl #[.int .i64 (rd l0 x9_1), .int .i64 0, .int .i64 (wrap64 (a1 - 1))] rfl (by (try simp only [List.map_toArray, List.map_cons, List.map_nil]); first | done | rfl | (simp only [List.length_drop, List.length_take]; rfl)) ?_; (with_reducible refine (impl_in.calls (rd l0 x9_1) 0 (wrap64 (a1 - 1)) true _ A6.out).mono ?_); rintro e w' ⟨rfl, ⟨nd, rfl⟩⟩; refine ⟨_, rfl, ?_⟩))
                go_roundg k1
                case measure => have := HK1.out; omega
                case rel => exact ⟨(wrap64 (x9_1 + 1)), (by first | rfl | (simp; done) | (simp [*]; done) | (simp; exact (fun l : List UInt8 => (by cases l <;> rfl : l.isEmpty = !(l != []))) _)), H', ⟨by have := HK1.out; omega⟩, by repeat (first | exact Drawn0.refl _ | apply Drawn0.step)⟩
            · replace c7 := Bool.eq_false_iff.mpr c7
              subst c7
              have H1 : (some false) = some r := by rw [if_neg (show ¬ (false = true) by decide)] at H; exact H
              clear H
              have H := H1
              clear H1
              obtain rfl := Option.some.inj H
              have p220 : 0 ≤ (x9_1 : Int) := of_decide_eq_true (by first | (with_reducible assumption) | assumption)
              have q220 : x9_1 < (l0.length : Int) := of_decide_eq_true (by first | (with_reducible assumption) | assumption)
              obtain ⟨ad220, e220, hx220_0⟩ := Kd.at_int HR0.out x9_1 p220 q220
              cases e220
              replace p220 := eq_true p220
              replace q220 := eq_true q220
              go_wp2_with (first | ((with_reducible refine gate_callee (f := 48) rfl ?_); refine goesL_ (some 17) rfl rfl Try.func48 (by kernel_rfl) rfl #[.int .i64 (rd l0 x9_1), .int .i64 0, .int .i64 (wrap64 (a1 - 1))] rfl (by (try simp only [List.map_toArray, List.map_cons, List.map_nil]); first | done | rfl | (simp only [List.length_drop, List.length_take]; rfl)) ?_; (with_reducible refine (impl_in.calls (rd l0 x9_1) 0 (wrap64 (a1 - 1)) false _ A6.out).mono ?_); rintro e w' ⟨rfl, ⟨nd, rfl⟩⟩; refine ⟨_, rfl, ?_⟩))
              go_ret
              exact ⟨by first | rfl | (simp; done) | (simp [*]; done), by repeat (first | exact Drawn0.refl _ | apply Drawn0.step)⟩
          · rw [if_neg c5] at H
            exact absurd H (by simp)
        · rw [if_neg c4] at H
          exact absurd H (by simp)
      · rw [if_neg c3] at H
        have c3b0 : decide (x9_1 < (l0.length : Int)) = false := decide_eq_false c3
        clear c3
        obtain rfl := Option.some.inj H
        go_wp2
        go_ret
        exact ⟨by first | rfl | (simp; done) | (simp [*]; done), by repeat (first | exact Drawn0.refl _ | apply Drawn0.step)⟩

/-! ### impl_GoodNet: function 16, by hand -/
/-- a step is bad -/
def impl_GoodNet.bad (k : Nat) (n : Int) (s : S60) : Option Bool := (impl_rising.f k s.f0 n).bind fun t => (if t = true then ((impl_rising.f k s.f1 n).bind fun t => (some (!t))) else (some true))
def impl_GoodNet.f (k : Nat) (a0 : Int) (l1 : List (S60)) : Option Bool := (impl_in.f a0 1 8).bind fun t => (if t = true then (if (l1.length : Int) > 12 then (some false) else ((anyO60 (impl_GoodNet.bad k a0) l1).bind fun t => (some (!t)))) else (some false))
theorem impl_GoodNet.mono : ∀ a0 a1 k, LeO (impl_GoodNet.f k a0 a1) (impl_GoodNet.f (k + 1) a0 a1) := by
  intro a0 a1 k
  unfold impl_GoodNet.f
  have hb : ∀ s, LeO (impl_GoodNet.bad k a0 s) (impl_GoodNet.bad (k + 1) a0 s) := fun s => LeO.bind (impl_rising.mono _ _ _) (fun _ => LeO.ite (LeO.bind (impl_rising.mono _ _ _) (fun _ => LeO.refl _)) (LeO.refl _))
  exact LeO.bind (LeO.refl _) (fun _ => LeO.ite (LeO.ite (LeO.refl _) (LeO.bind (anyO60_mono hb _) (fun _ => LeO.refl _))) (LeO.refl _))
set_option maxHeartbeats 8000000 in
set_option maxRecDepth 100000 in
theorem impl_GoodNet.clo (k : Nat) (n : Int) (g : Nat) (W : World) (x : S60) (B0 : Option Addr) (d0 : Nat) (B1 : Option Addr) (d1 : Nat) (b : Bool) (hn : W.cell? ⟨g, 0, none⟩ = some (.int .i64 n)) (hr0 : Kd.C (Kd.int .i64) W B0 x.f0.length x.f0) (hc0 : x.f0.length ≤ d0) (hr1 : Kd.C (Kd.int .i64) W B1 x.f1.length x.f1) (hc1 : x.f1.length ≤ d1) (h : impl_GoodNet.bad k n x = some b) :
    Calls Try.prog 50 (#[.agg #[.slice B0 x.f0.length d0, .slice B1 x.f1.length d1]] ++ #[.pointer (some ⟨g, 0, none⟩)]) W fun e w' => e = .returned (.bool b) ∧ Below W.heap.size W w' := by
  have HR0 := Aside0.mk hr0
  have HR1 := Aside0.mk hr1
  have HC0 := Aside0.mk hc0
  have HC1 := Aside0.mk hc1
  unfold impl_GoodNet.bad at h
  obtain ⟨t, ht, h⟩ := Option.bind_eq_some_iff.mp h
  have HT := Aside0.mk ht
  have H := Aside0.mk h
  clear hr0 hc0 hr1 hc1 h ht
  have hu60 := Try.underlying60
  have hg : g < W.heap.size := World.block_lt_of_cell? W _ hn
  have hn2 : (W.alloc (.cells #[.slice B0 x.f0.length d0, .slice B1 x.f1.length d1] 60)).cell? ⟨g, 0, none⟩ = some (.int .i64 n) := pw_cell_below (below_alloc (Below.refl _ _) _) hn
  clear hn hg
  go_enter Try.func50, Try.ntmps50
  go_wp2_with fail
  refine (impl_rising.calls k B0 d0 x.f0 n t _ (Kd.C_alloc HR0.out _) HC0.out HT.out).mono ?_
  rintro e w1 ⟨rfl, ⟨nd, rfl⟩⟩
  have hn3 : ((W.alloc (.cells #[.slice B0 x.f0.length d0, .slice B1 x.f1.length d1] 60)).drewN nd).cell? ⟨g, 0, none⟩ = some (.int .i64 n) := hn2
  clear hn2
  cases t with
  | false =>
    have H2 := H.out
    rw [if_neg (by decide)] at H2
    obtain rfl := Option.some.inj H2
    go_wp2
    go_ret
    exact ⟨rfl, pw_below_drewN (below_alloc (Below.refl _ _) _) _⟩
  | true =>
    have H2 := H.out
    rw [if_pos rfl] at H2
    obtain ⟨t, ht, H2⟩ := Option.bind_eq_some_iff.mp H2
    obtain rfl := Option.some.inj H2
    have HT2 := Aside0.mk ht
    clear ht H2 H HT
    go_wp2_with fail
    refine (impl_rising.calls k B1 d1 x.f1 n t _ (Kd.C_drewN (Kd.C_alloc HR1.out _) _) HC1.out HT2.out).mono ?_
    rintro e w1 ⟨rfl, ⟨nd2, rfl⟩⟩
    go_wp2
    go_ret
    exact ⟨rfl, pw_below_drewN (below_alloc (Below.refl _ _) _) _⟩
set_option maxHeartbeats 8000000 in
set_option maxRecDepth 100000 in
theorem impl_GoodNet.calls (k : Nat) (a0_0 : Int) (A0_1 : Option Addr) (c0_1 : Nat) (l0_1 : List (S60)) (r : Bool) (w : World) (hr0_1 : Kd.C k60 w A0_1 l0_1.length l0_1) (hc0_1 : l0_1.length ≤ c0_1) (h : impl_GoodNet.f k a0_0 l0_1 = some r) :
    Calls Try.prog 16 #[.agg #[.int .i64 a0_0, .slice A0_1 l0_1.length c0_1]] w fun e w' => e = .returned (.bool r) ∧ Below w.heap.size w w' := by
  have HR := Aside0.mk hr0_1
  have HL := Aside0.mk hr0_1.2.1
  clear hr0_1 hc0_1
  have hu29 := Try.underlying29
  unfold impl_GoodNet.f at h
  obtain ⟨t, ht, h⟩ := Option.bind_eq_some_iff.mp h
  have HT := Aside0.mk ht
  have H := Aside0.mk h
  clear h ht
  have z0 : (w.alloc (.cells #[.int .i64 a0_0, .slice A0_1 l0_1.length c0_1] 29)).cell? ⟨w.heap.size, 0, none⟩ = some (.int .i64 a0_0) := by go_simp
  have z1 : (w.alloc (.cells #[.int .i64 a0_0, .slice A0_1 l0_1.length c0_1] 29)).cell? ⟨w.heap.size, 1, none⟩ = some (.slice A0_1 l0_1.length c0_1) := by go_simp
  go_enter Try.func16, Try.ntmps16
  go_wp2_with fail
  refine (impl_in.calls a0_0 1 8 t _ HT.out).mono ?_
  rintro e w1 ⟨rfl, ⟨nd, rfl⟩⟩
  have z0' : ((w.alloc (.cells #[.int .i64 a0_0, .slice A0_1 l0_1.length c0_1] 29)).drewN nd).cell? ⟨w.heap.size, 0, none⟩ = some (.int .i64 a0_0) := z0
  have z1' : ((w.alloc (.cells #[.int .i64 a0_0, .slice A0_1 l0_1.length c0_1] 29)).drewN nd).cell? ⟨w.heap.size, 1, none⟩ = some (.slice A0_1 l0_1.length c0_1) := z1
  clear z0 z1
  cases t with
  | false =>
    have H2 := H.out
    rw [if_neg (by decide)] at H2
    obtain rfl := Option.some.inj H2
    go_wp2
    go_ret
    exact ⟨rfl, pw_below_drewN (below_alloc (Below.refl _ _) _) _⟩
  | true =>
    have H2 := H.out
    rw [if_pos rfl] at H2
    clear H HT
    by_cases h12 : (l0_1.length : Int) > 12
    · rw [if_pos h12] at H2
      obtain rfl := Option.some.inj H2
      go_wp2
      go_ret
      exact ⟨rfl, pw_below_drewN (below_alloc (Below.refl _ _) _) _⟩
    · rw [if_neg h12] at H2
      obtain ⟨t, ht, H2⟩ := Option.bind_eq_some_iff.mp H2
      obtain rfl := Option.some.inj H2
      have HB := Aside0.mk (pw_below_drewN (below_alloc (Below.refl w.heap.size w) (.cells #[.int .i64 a0_0, .slice A0_1 l0_1.length c0_1] 29)) nd)
      have HC := Aside0.mk (slices_ContainsFunc_Step.at 50 (enters_ Try.func50 (by kernel_rfl) rfl) #[.pointer (some ⟨w.heap.size, 0, none⟩)] (impl_GoodNet.bad k a0_0) A0_1 c0_1 l0_1 t _ (Kd.C_below HR.out HB.out)
        (fun W x B0 d0 B1 d1 b hW hi0 hl0 hi1 hl1 hb => impl_GoodNet.clo k a0_0 w.heap.size W x B0 d0 B1 d1 b (pw_cell_below hW z0') hi0 hl0 hi1 hl1 hb) ht)
      clear ht H2
      go_wp2_with fail
      refine HC.out.mono ?_
      rintro e w2 ⟨rfl, hb2⟩
      have HB2 := Aside0.mk (below_then HB.out HB.out.size hb2)
      clear hb2
      go_wp2
      go_ret
      exact ⟨rfl, HB2.out⟩

/-! ### slices_ContainsFunc_int_int_60: function 60, by hand; a text alone -/
set_option maxHeartbeats 8000000 in
set_option maxRecDepth 100000 in
theorem slices_IndexFunc_int_int.at (g : Nat) (eg : ∀ args W, (callFunc g args).run Try.prog W = .ok (.enter g args) W) (lb : Array Value) (p : Int → Bool) (A0 : Option Addr) (c0 : Nat) (l0 : List Int) (w : World) (hr0 : Kd.C (Kd.int .i64) w A0 l0.length l0)
    (hp : ∀ (W : World) (x : Int), x ∈ l0 → Below w.heap.size w W → Calls Try.prog g (#[.int .i64 x] ++ lb) W fun e w' => e = .returned (.bool (p x)) ∧ Below W.heap.size W w') :
    Calls Try.prog 84 #[.slice A0 l0.length c0, .func (.func g) #[] lb] w fun e w' => ∃ r : Int, e = .returned (.int .i64 r) ∧ decide (0 ≤ r) = l0.any p ∧ Below w.heap.size w w' := by
  have HR0 := Aside0.mk hr0
  have hl := hr0.2.1
  have HP := Aside0.mk hp
  clear hr0 hp
  go_enter Try.func84, Try.ntmps84
  go_wp2_with fail
  go_loopg [8] l0.length (fun kq v8 w' => ∃ j : Nat, v8 = .int .i64 (j : Int) ∧ Aside0 (j + kq = l0.length) ∧ Aside0 (∀ x ∈ l0.take j, p x = false) ∧ Aside0 (Below w.heap.size w w'))
  case atStart => exact ⟨0, rfl, ⟨by omega⟩, ⟨by simp⟩, ⟨Below.refl _ _⟩⟩
  case round =>
    obtain ⟨j, rfl, HJ, HA, HB⟩ := hrel
    by_cases hlt : j < l0.length
    · obtain ⟨ad, e0, hcell⟩ := Kd.at_int (Kd.C_below HR0.out HB.out) (j : Int) (by omega) (by omega)
      cases e0
      rw [Int.toNat_natCast] at hcell
      have HM := Aside0.mk (show rd l0 (j : Int) ∈ l0 by unfold rd; rw [Int.toNat_natCast, List.getD_eq_getElem?_getD, List.getElem?_eq_getElem hlt]; exact List.getElem_mem _)
      have HT := Aside0.mk (show l0.take (j + 1) = l0.take j ++ [rd l0 (j : Int)] by unfold rd; rw [Int.toNat_natCast, List.take_succ_eq_append_getElem hlt, List.getD_eq_getElem?_getD, List.getElem?_eq_getElem hlt]; rfl)
      obtain ⟨x, hx⟩ : ∃ x, x = rd l0 (j : Int) := ⟨_, rfl⟩
      rw [← hx] at hcell HM HT
      clear hx
      go_wp2_with fail
      refine (HP.out wr x HM.out HB.out).mono ?_
      rintro e w1 ⟨rfl, hb1⟩
      have HB1 := Aside0.mk (below_then HB.out HB.out.size hb1)
      clear hb1
      cases hpx : p x with
      | true =>
        have HX := Aside0.mk hpx
        clear hpx
        go_wp2
        go_ret
        refine ⟨(j : Int), rfl, ?_, HB1.out⟩
        rw [decide_eq_true (by omega)]
        exact (List.any_eq_true.2 ⟨x, HM.out, HX.out⟩).symm
      | false =>
        have HX := Aside0.mk hpx
        clear hpx
        cases gk with
        | zero => exact absurd HJ.out (by omega)
        | succ k1 =>
          go_wp2
          go_roundg k1
          case measure => omega
          case rel =>
            refine ⟨j + 1, by go_num, ⟨by have := HJ.out; omega⟩, ⟨?_⟩, ⟨HB1.out⟩⟩
            rw [HT.out]
            intro y hy
            rcases List.mem_append.1 hy with hy | hy
            · exact HA.out y hy
            · rw [List.mem_singleton.1 hy]; exact HX.out
    · go_wp2
      go_ret
      refine ⟨-1, rfl, ?_, HB.out⟩
      rw [decide_eq_false (by omega)]
      have h := HA.out
      rw [List.take_of_length_le (by omega)] at h
      exact (Bool.eq_false_iff.2 (fun h2 => by obtain ⟨y, hy, hpy⟩ := List.any_eq_true.1 h2; rw [h y hy] at hpy; cases hpy)).symm
set_option maxHeartbeats 8000000 in
theorem slices_ContainsFunc_int_int.at (g : Nat) (eg : ∀ args W, (callFunc g args).run Try.prog W = .ok (.enter g args) W) (lb : Array Value) (p : Int → Bool) (A0 : Option Addr) (c0 : Nat) (l0 : List Int) (w : World) (hr0 : Kd.C (Kd.int .i64) w A0 l0.length l0)
    (hp : ∀ (W : World) (x : Int), x ∈ l0 → Below w.heap.size w W → Calls Try.prog g (#[.int .i64 x] ++ lb) W fun e w' => e = .returned (.bool (p x)) ∧ Below W.heap.size W w') :
    Calls Try.prog 60 #[.slice A0 l0.length c0, .func (.func g) #[] lb] w fun e w' => e = .returned (.bool (l0.any p)) ∧ Below w.heap.size w w' := by
  have H := Aside0.mk (slices_IndexFunc_int_int.at g eg lb p A0 c0 l0 w hr0 hp)
  clear hp hr0 eg
  go_enter Try.func60, Try.ntmps60
  go_wp2_with fail
  refine H.out.mono ?_
  rintro e w1 ⟨r, rfl, hr, hb⟩
  have HR := Aside0.mk hr
  have HB := Aside0.mk hb
  clear hr hb
  go_wp2
  go_ret
  exact ⟨by rw [← HR.out]; rfl, HB.out⟩

/-! ### impl_isMarking: function 55, by hand -/
def impl_isMarking.f (l : List Int) (n : Int) : Option Bool := some (decide ((l.length : Int) = n) && l.all (fun x => decide (0 ≤ x ∧ x ≤ 9)))
theorem impl_isMarking.clo (W : World) (x : Int) : Calls Try.prog 81 (#[.int .i64 x] ++ #[]) W fun e w' => e = .returned (.bool (!decide (0 ≤ x ∧ x ≤ 9))) ∧ Below W.heap.size W w' := by
  have A := Aside0.mk (show impl_in.f x 0 9 = some (decide (0 ≤ x ∧ x ≤ 9)) by
    unfold impl_in.f
    by_cases h : x ≥ 0
    · rw [if_pos h]; congr 1; simp only [decide_eq_decide]; omega
    · rw [if_neg h, decide_eq_false (by omega)])
  obtain ⟨b, hb⟩ : ∃ b, b = decide (0 ≤ x ∧ x ≤ 9) := ⟨_, rfl⟩
  rw [← hb] at A ⊢
  clear hb
  go_enter Try.func81, Try.ntmps81
  go_wp2_with fail
  refine (impl_in.calls x 0 9 b _ A.out).mono ?_
  rintro e w' ⟨rfl, ⟨nd, rfl⟩⟩
  go_wp2
  go_ret
  exact ⟨rfl, pw_below_drewN (Below.refl _ _) _⟩
set_option maxHeartbeats 8000000 in
set_option maxRecDepth 100000 in
theorem impl_isMarking.calls (A0 : Option Addr) (c0 : Nat) (l0 : List Int) (a1 : Int) (r : Bool) (w : World) (hr0 : Kd.C (Kd.int .i64) w A0 l0.length l0) (hc0 : l0.length ≤ c0) (h : impl_isMarking.f l0 a1 = some r) :
    Calls Try.prog 55 #[.slice A0 l0.length c0, .int .i64 a1] w fun e w' => e = .returned (.bool r) ∧ Below w.heap.size w w' := by
  have HC := Aside0.mk (slices_ContainsFunc_int_int.at 81 (enters_ Try.func81 (by kernel_rfl) rfl) #[] (fun x => !decide (0 ≤ x ∧ x ≤ 9)) A0 c0 l0 w hr0 (fun W x _ _ => impl_isMarking.clo W x))
  have H := Aside0.mk (Option.some.inj h)
  have HL := Aside0.mk hr0.2.1
  clear h hr0 hc0
  by_cases hl : (l0.length : Int) = a1
  · have hb : ((l0.length : Int) == a1) = true := beq_iff_eq.2 hl
    have HD := Aside0.mk (decide_eq_true hl)
    clear hl
    go_enter Try.func55, Try.ntmps55
    go_wp2_with fail
    refine HC.out.mono ?_
    rintro e w1 ⟨rfl, hb1⟩
    have HB := Aside0.mk hb1
    clear hb1
    obtain ⟨b, hbb⟩ : ∃ b, b = l0.any (fun x => !decide (0 ≤ x ∧ x ≤ 9)) := ⟨_, rfl⟩
    rw [← hbb]
    have HBB := Aside0.mk hbb
    clear hbb
    go_wp2
    go_ret
    refine ⟨?_, HB.out⟩
    have e1 := H.out
    rw [HD.out, Bool.true_and] at e1
    have e2 : (!b) = r := by
      rw [← e1, HBB.out, List.not_any_eq_all_not]
      simp
    rw [← e2]
    rfl
  · have hb : ((l0.length : Int) == a1) = false := beq_eq_false_iff_ne.2 hl
    have HD := Aside0.mk (decide_eq_false hl)
    clear hl
    go_enter Try.func55, Try.ntmps55
    go_wp2
    go_ret
    refine ⟨?_, Below.refl _ _⟩
    have e1 := H.out
    rw [HD.out, Bool.false_and] at e1
    rw [← e1]
    rfl

/-! ### slices_Clone_int_int: function 63, by hand -/
def slices_Clone_int_int.f (l : List Int) : Option (List Int) := if l.length < 17592186044416 then some l else none
theorem slices_Clone_int_int.nil (w : World) (A : Option Addr) (n c : Nat) : (binOp .eql 33 (.slice A n c) (.slice none 0 0)).run Try.prog w = .ok (.bool A.isNone) w := by
  have h : ∀ d : Nat, (Op.equalIn (d + 1) 33 (.slice A n c) (.slice none 0 0)).run Try.prog w = .ok A.isNone w := fun d => by
    cases A <;> simp [Op.equalIn, run_underlying Try.underlying33]
  simp only [binOp]
  simp [Op.equal, Op.maxDepth, h 9999]
set_option maxHeartbeats 8000000 in
set_option maxRecDepth 100000 in
theorem slices_Clone_int_int.calls (A0 : Option Addr) (c0 : Nat) (l0 : List Int) (r : List Int) (w : World) (hr0 : Kd.C (Kd.int .i64) w A0 l0.length l0) (hc0 : l0.length ≤ c0) (h : slices_Clone_int_int.f l0 = some r) :
    Calls Try.prog 63 #[.slice A0 l0.length c0] w fun e w' => ∃ v0_ : Value, e = .returned (v0_) ∧ Kd.R (Kd.int .i64) 3 w' w.heap.size (fun _ => True) v0_ r ∧ Below w.heap.size w w' := by
  unfold slices_Clone_int_int.f at h
  have hl : l0.length < 17592186044416 := by
    by_cases hl : l0.length < 17592186044416
    · exact hl
    · rw [if_neg hl] at h; cases h
  rw [if_pos hl] at h
  injection h with h
  subst h
  have HR1 := Aside0.mk hr0
  have HC1 := Aside0.mk hc0
  have LMc3 := Aside0.mk hl
  have HB := Aside0.mk (Below.refl w.heap.size w)
  clear hc0 hl
  cases A0 with
  | none =>
    have hn : l0 = [] := by
      rcases Nat.eq_zero_or_pos l0.length with h0 | h0
      · exact List.length_eq_zero_iff.1 h0
      · obtain ⟨ad, e, _⟩ := Kd.at_int hr0 0 (by omega) (by omega)
        cases e
    subst hn
    clear hr0
    have hq := fun W => slices_Clone_int_int.nil W none 0 c0
    simp only [Option.isNone] at hq
    go_enter Try.func63, Try.ntmps63
    go_wp2
    go_ret
    exact ⟨_, rfl, Kd.R_nil _ _ _ _ _, HB.out⟩
  | some a =>
    clear hr0
    obtain ⟨y164, hy164⟩ : ∃ y_ : List Int, y_ = (([] : List Int)) := ⟨_, rfl⟩
    obtain ⟨y167, hy167⟩ : ∃ y_ : List Int, y_ = (y164 ++ l0) := ⟨_, rfl⟩
    have e167 : y167 = l0 := by rw [hy167, hy164]; rfl
    have L := Aside0.mk (show y164.length + l0.length < 17592186044416 by rw [hy164]; simpa using LMc3.out)
    have Ny164 := Aside0.mk hy164
    have Ny167 := Aside0.mk hy167
    have E167 := Aside0.mk e167
    clear hy164 hy167 e167
    have hq := fun W => slices_Clone_int_int.nil W (some a) l0.length c0
    simp only [Option.isNone] at hq
    go_enter Try.func63, Try.ntmps63
    go_wp2_with (first | ((with_reducible refine gate_dst (N := 5) rfl ?_); refine Kd.R_lit (Kd.int .i64) _ 3 ?hg (N := 5) ?hd (xs := ([] : List Int)) (inner := []) (ok := fun _ => True) (okp := fun _ => True) ?hr ?hp (fun _ hk => hk) trivial (Below.refl _ _) (Nat.le_refl _) (by simp) ?_; (case hd => rfl); (case hg => rfl); (case hr => first | (go_simp; done) | (go_simp; rfl)); (case hp => exact (Reps.none _ _)); intro v165 w5 ho6 hb hg_ hnew_; clear hg_ hnew_; (first | rw [← Ny164.out] at ho6 | (simp only [Int.reduceToNat] at ho6; rw [← Ny164.out] at ho6)); have n0_ := Aside0.mk (Kd.R_lower ho6 (below_size (by repeat (first | (with_reducible first | exact HB.out | apply below_alloc | apply pw_below_drewN | apply below_drew1) | exact HB.out)))); have n2_ := Aside0.mk (below_step (by repeat (first | (with_reducible first | exact HB.out | apply below_alloc | apply pw_below_drewN | apply below_drew1) | exact HB.out)) hb); clear HB; have HO166 := n0_; have HB := n2_; clear n0_ n2_; clear hb ho6) | ((with_reducible refine gate_builtin (b := .append) (xs := #[.tmp 5, .tmp 6]) rfl ?_); at_builtin; refine Kd.R_append_rows (Kd.int .i64) (w0 := w) w.heap.size rfl (.tmp 5) (.tmp 6) 33 3 (.int .i64 0) 8 rfl Try.underlying33 info3 rfl (by decide) (by omega) v165 y164 l0 _ _ _ (fun _ => True) (fun _ => False) rfl rfl ?aO ?aR (fun _ _ h => h) (fun _ h => h.elim) ?aF ?aB ?aS ?aL ?_; (case aR => repeat (first | exact (Kd.C_below HR1.out HB.out) | (with_reducible refine Kd.C_alloc ?_ _) | (with_reducible refine Kd.C_drewN ?_ _) | (with_reducible refine Kd.C_drew ?_))); (case aB => exact (by repeat (first | (with_reducible first | exact HB.out | apply below_alloc | apply pw_below_drewN | apply below_drew1) | exact HB.out))); (case aF => exact (fun _ _ => trivial)); (case aO => exact (by (with_reducible repeat (first | apply Kd.R_alloc | apply Kd.R_drewN | apply Kd.R_drew)); exact HO166.out)); (case aS => exact (below_size (by repeat (first | (with_reducible first | exact HB.out | apply below_alloc | apply pw_below_drewN | apply below_drew1) | exact HB.out)))); (case aL => have := L.out; omega); intro v168 w7 ho hb hg hat; rw [← Ny167.out] at ho; have n1_ := Aside0.mk (hb); have n2_ := Aside0.mk (ho); clear HB; clear HO166; have HB := n1_; have HO169 := n2_; clear n1_ n2_; clear ho hb hg hat))
    go_ret
    exact ⟨_, rfl, by rw [← E167.out]; exact HO169.out, HB.out⟩

/-! ### slices_Min_int_int: function 83, by hand -/
/-- the least of a list and one number -/
def lowestOf : List Int → Int → Int
  | [], x => x
  | y :: l, x => lowestOf l (min x y)
def slices_Min_int_int.f (l : List Int) : Option Int := match l with
  | [] => none
  | x :: l => some (lowestOf l x)
theorem lowestOf_drop (l : List Int) (j : Nat) (h : j < l.length) (x : Int) : lowestOf (l.drop j) x = lowestOf (l.drop (j + 1)) (min x (rd l j)) := by
  rw [List.drop_eq_getElem_cons h]
  simp only [lowestOf, rd, Int.toNat_natCast, List.getD_eq_getElem?_getD, List.getElem?_eq_getElem h, Option.getD_some]
set_option maxHeartbeats 8000000 in
set_option maxRecDepth 100000 in
theorem slices_Min_int_int.calls (A0 : Option Addr) (c0 : Nat) (l0 : List Int) (r : Int) (w : World) (hr0 : Kd.C (Kd.int .i64) w A0 l0.length l0) (hc0 : l0.length ≤ c0) (h : slices_Min_int_int.f l0 = some r) :
    Calls Try.prog 83 #[.slice A0 l0.length c0] w fun e w' => e = .returned (.int .i64 r) ∧ Drawn0 w w' := by
  have hl := hr0.2.1
  have hpos : 0 < l0.length := by
    cases l0 with
    | nil => simp [slices_Min_int_int.f] at h
    | cons x l => simp
  have h1 : lowestOf (l0.drop 1) (rd l0 0) = r := by
    cases l0 with
    | nil => simp at hpos
    | cons x l => simpa [slices_Min_int_int.f, rd] using h
  have HR0 := Aside0.mk hr0
  obtain ⟨ad0, e0, hx0⟩ := Kd.at_int hr0 0 (by omega) (by omega)
  subst e0
  replace hx0 : w.cell? ad0 = some (.int .i64 (rd l0 0)) := by
    have e : ad0.add (Int.toNat 0) = ad0 := rfl
    rw [e] at hx0; exact hx0
  have H1 := Aside0.mk h1
  have hb0 : decide ((l0.length : Int) < 1) = false := decide_eq_false (by omega)
  have hb1 : (0 : Int) < l0.length := by omega
  have hb2 : ((0 : Int) < l0.length) = True := eq_true hb1
  have hb3 : (0 < l0.length) = True := eq_true hpos
  have hb4 : decide ((0 : Int) < l0.length) = true := decide_eq_true hb1
  clear hb1
  have HP := Aside0.mk hpos
  clear h h1 hr0 hc0 hpos
  go_enter Try.func83, Try.ntmps83
  go_wp2
  go_loopg [3, 4] l0.length (fun kq v3 v4 w' => ∃ (x : Int) (j : Nat), v3 = .int .i64 x ∧ v4 = .int .i64 j ∧ Aside0 (kq + j = l0.length + 1) ∧ Aside0 (lowestOf (l0.drop j) x = r) ∧ Aside0 (Drawn0 w w'))
  case atStart => exact ⟨rd l0 0, 1, rfl, rfl, ⟨by have := HP.out; omega⟩, H1, ⟨Drawn0.refl w⟩⟩
  case round =>
    obtain ⟨x, j, rfl, rfl, HK, HX, HD⟩ := hrel
    obtain ⟨nd, rfl⟩ := HD.out.out
    clear HD
    by_cases hlt : j < l0.length
    · obtain ⟨ad, e0, hcell⟩ := Kd.at_int HR0.out (j : Int) (by omega) (by omega)
      cases e0
      rw [Int.toNat_natCast] at hcell
      have HE := Aside0.mk (lowestOf_drop l0 j hlt x)
      obtain ⟨y, hy⟩ : ∃ y, y = rd l0 (j : Int) := ⟨_, rfl⟩
      rw [← hy] at hcell HE
      clear hy
      cases gk with
      | zero => exact absurd HK.out (by omega)
      | succ k1 =>
        rcases Int.lt_or_le y x with hyx | hyx
        · have hyb : decide (y < x) = true := decide_eq_true hyx
          go_wp2
          go_roundg k1
          case measure => omega
          case rel => exact ⟨_, j + 1, rfl, by go_num, ⟨by have := HK.out; omega⟩, ⟨by rw [show y = min x y by omega, ← HE.out]; exact HX.out⟩, ⟨⟨⟨_, rfl⟩⟩⟩⟩
        · have hyn : ¬ (y < x) := by omega
          go_wp2
          go_roundg k1
          case measure => omega
          case rel => exact ⟨_, j + 1, rfl, by go_num, ⟨by have := HK.out; omega⟩, ⟨by rw [show x = min x y by omega, ← HE.out]; exact HX.out⟩, ⟨⟨⟨_, rfl⟩⟩⟩⟩
    · have hlt' : ¬ ((j : Int) < l0.length) := by omega
      go_wp2
      go_ret
      refine ⟨?_, ⟨⟨_, rfl⟩⟩⟩
      have e := HX.out
      rw [List.drop_of_length_le (by omega)] at e
      rw [← e]; rfl

/-! ### impl_Net_fired: function 59, by hand; a text alone -/
/-- d to the places that a list names -/
def addAll (d : Int) : List Int → List Int → Option (List Int)
  | [], x => some x
  | p :: l, x => if 0 ≤ p ∧ p < x.length then addAll d l (x.set p.toNat (wrap64 (rd x p + d))) else none
theorem addAll_drop (d : Int) (l : List Int) (j : Nat) (h : j < l.length) (x : List Int) : addAll d (l.drop j) x = if 0 ≤ rd l j ∧ rd l j < x.length then addAll d (l.drop (j + 1)) (x.set (rd l j).toNat (wrap64 (rd x (rd l j) + d))) else none := by
  rw [List.drop_eq_getElem_cons h]
  simp only [addAll, rd, Int.toNat_natCast, List.getD_eq_getElem?_getD, List.getElem?_eq_getElem h, Option.getD_some]
def net_fired.f (a0 : Int) (st : List S60) (m : List Int) (step : Int) : Option (List Int × Bool) :=
  if 0 ≤ step ∧ step < st.length ∧ m.length < 17592186044416 then
    ((addAll (-1) (rd_T60 st step).f0 m).bind fun x => (slices_Min_int_int.f x).bind fun q => if q < 0 then some ([], false) else (addAll 1 (rd_T60 st step).f1 x).bind fun y => (impl_isMarking.f y a0).bind fun b => some (y, b))
  else none
set_option maxHeartbeats 8000000 in
set_option maxRecDepth 100000 in
theorem net_fired.calls (gb : Nat) (A : Option Addr) (cc : Nat) (a0 : Int) (st : List S60) (A1 : Option Addr) (c1 : Nat) (m : List Int) (step : Int) (r1 : List Int) (r2 : Bool) (w : World) (hbk : w.heap[gb]? = some (.cells #[.int .i64 a0, .slice A st.length cc] 29 (0, 0))) (hst : Kd.C k60 w A st.length st) (hm : Kd.C (Kd.int .i64) w A1 m.length m) (hc1 : m.length ≤ c1) (h : net_fired.f a0 st m step = some (r1, r2)) :
    Calls Try.prog 59 #[.pointer (some ⟨gb, 0, none⟩), .slice A1 m.length c1, .int .i64 step] w fun e w' => ∃ v0_ : Value, e = .returned (.tuple #[v0_, .bool r2]) ∧ Kd.R (Kd.int .i64) 3 w' w.heap.size (fun _ => True) v0_ r1 ∧ Below w.heap.size w w' := by
  have hu29 := Try.underlying29
  have hu60 := Try.underlying60
  unfold net_fired.f at h
  by_cases hs : 0 ≤ step ∧ step < st.length ∧ m.length < 17592186044416
  · rw [if_pos hs] at h
    obtain ⟨hs0, hs1, hml⟩ := hs
    have hcl : slices_Clone_int_int.f m = some m := by unfold slices_Clone_int_int.f; rw [if_pos hml]
    have H := Aside0.mk h
    obtain ⟨ad, B0, d0, B1, d1, rfl, hx0, hx1, hd0, hi0, hd1, hi1⟩ := at_T60 hst step hs0 hs1
    have hz0 : w.cell? ⟨gb, 0, none⟩ = some (.int .i64 a0) := (blk_cell hbk 0).trans rfl
    have hz1 : w.cell? ⟨gb, 1, none⟩ = some (.slice (some ad) st.length cc) := (blk_cell hbk 1).trans rfl
    have HR0 := Aside0.mk hi0
    have HR1 := Aside0.mk hi1
    have BK := Aside0.mk hbk
    have HB := Aside0.mk (Below.refl w.heap.size w)
    obtain ⟨s, hs⟩ : ∃ s, s = rd_T60 st step := ⟨_, rfl⟩
    have HS := Aside0.mk hs
    have lz0 := World.block_lt_of_cell? w _ hz0
    have lz1 := World.block_lt_of_cell? w _ hz1
    have lx0 := World.block_lt_of_cell? w _ hx0
    have lx1 := World.block_lt_of_cell? w _ hx1
    have HC := Aside0.mk (show ∀ W, Below w.heap.size w W → Calls Try.prog 63 #[.slice A1 m.length c1] W fun e w' => ∃ v0_ : Value, e = .returned (v0_) ∧ Kd.R (Kd.int .i64) 3 w' w.heap.size (fun _ => True) v0_ m ∧ Below W.heap.size W w' ∧ Below w.heap.size w w' ∧ w'.cell? ⟨gb, 1, none⟩ = some (.slice (some ad) st.length cc) ∧ w'.cell? (ad.add (step.toNat * 2)) = some (.slice B0 (rd_T60 st step).f0.length d0) ∧ w'.cell? ⟨(ad.add (step.toNat * 2)).block, (ad.add (step.toNat * 2)).off + 1, none⟩ = some (.slice B1 (rd_T60 st step).f1.length d1) ∧ (W.heap[w.heap.size]? = some (.cells #[.slice none 0 0, .slice none 0 0] 60 (0, 0)) → w'.heap[w.heap.size]? = some (.cells #[.slice none 0 0, .slice none 0 0] 60 (0, 0))) from fun W hb => by
      refine (slices_Clone_int_int.calls A1 c1 m m W (Kd.C_below hm hb) hc1 hcl).mono ?_
      rintro e w' ⟨v0, rfl, hr, hb1⟩
      have hb2 := below_then hb hb.size hb1
      exact ⟨v0, rfl, Kd.R_lower hr hb.size, hb1, hb2, (hb2.cell lz1).trans hz1, (hb2.cell lx0).trans hx0, (hb2.cell lx1).trans hx1, fun h => blk_below h hb1⟩)
    have nz1 := World.new_ne w _ hz1
    have nx0 := World.new_ne w _ hx0
    have nx1 := World.new_ne w _ hx1
    clear h hm hc1 hcl hst hbk hi0 hi1 hml hd0 hd1
    go_enter Try.func59, Try.ntmps59
    go_wp2_with fail
    go_cut [8, 9] from 14 to 22 (fun v8 v9 wx => ∃ gb9 : Nat, v9 = .pointer (some ⟨gb9, 0, none⟩) ∧ Aside0 (wx.heap[gb9]? = some (.cells #[.slice B0 (rd_T60 st step).f0.length d0, .slice B1 (rd_T60 st step).f1.length d1] 60 (0, 0))) ∧ Aside0 (Kd.R (Kd.int .i64) 3 wx w.heap.size (fun _ => True) v8 m) ∧ Aside0 (Below w.heap.size w wx))
    case first =>
      go_region_held3 (fun w' => w'.cell? ⟨gb, 1, none⟩ = some (.slice (some ad) st.length cc) ∧ w'.cell? (ad.add (step.toNat * 2)) = some (.slice B0 (rd_T60 st step).f0.length d0) ∧ w'.cell? ⟨(ad.add (step.toNat * 2)).block, (ad.add (step.toNat * 2)).off + 1, none⟩ = some (.slice B1 (rd_T60 st step).f1.length d1)) (first | exact ⟨hz1, hx0, hx1⟩ | exact ⟨hz1', hx0', hx1'⟩ | go_keep) ((go_at_call 63; refine (HC.out _ ?hb).mono ?_; (case hb => (repeat (first | exact HB.out | apply below_alloc | apply pw_below_drewN | apply below_drew1))); rintro e w1 ⟨v0, rfl, hr1, hb1, hb2, hz1', hx0', hx1', hn⟩; (try (replace hn := hn (heap_alloc_new w (.cells #[.slice none 0 0, .slice none 0 0] 60 (0, 0))); have hn0 : w1.cell? ⟨w.heap.size, 0, none⟩ = some (.slice none 0 0) := (blk_cell hn 0).trans rfl; have hn1 : w1.cell? ⟨w.heap.size, 1, none⟩ = some (.slice none 0 0) := (blk_cell hn 1).trans rfl; have hf0 := blk_frozen hn 0; have hf1 := blk_frozen hn 1))))
      · go_wp2_with fail
        go_meet
        exact ⟨w1.heap.size, rfl, ⟨blk_new _ _⟩, ⟨Kd.R_alloc hr1 _⟩, ⟨below_alloc hb2 _⟩⟩
      · go_wp2_with fail
        go_meet
        have hn' := blk_put hn 0 (.slice B0 (rd_T60 st step).f0.length d0) (cs' := #[.slice B0 (rd_T60 st step).f0.length d0, .slice none 0 0]) rfl
        exact ⟨w.heap.size, rfl, ⟨blk_put hn' 1 _ rfl⟩, ⟨Kd.R_set (Kd.R_set hr1 hn (fun q hq => by cases hq with | head => decide | tail _ h => exact nomatch (show q ∈ ([] : List TypeId) from h)) 0 _) hn' (fun q hq => by cases hq with | head => decide | tail _ h => exact nomatch (show q ∈ ([] : List TypeId) from h)) 1 _⟩, ⟨below_set (below_set hb2 (Nat.le_refl _)) (Nat.le_refl _)⟩⟩
    case rest =>
      obtain ⟨gb9, rfl, BK9, HO, HB⟩ := hcut
      clear HC hx0 hx1 hz1 nz1 nx0 nx1 lx0 lx1 lz1
      obtain ⟨x1, A1x, H⟩ := Option.bind_eq_some_iff.1 H.out
      have AX := Aside0.mk A1x
      have H := Aside0.mk H
      clear A1x
      have c90 := (blk_cell BK9.out 0)
      have c91 := (blk_cell BK9.out 1)
      have f90 := blk_frozen BK9.out 0
      have f91 := blk_frozen BK9.out 1
      simp at c90 c91
      go_wp2_with fail

      go_loopg [26] (rd_T60 st step).f0.length (fun kq v26 w' => ∃ (x : List Int) (j : Nat), v26 = .int .i64 (j : Int) ∧ Aside0 (kq + j = (rd_T60 st step).f0.length) ∧ Aside0 (addAll (-1) ((rd_T60 st step).f0.drop j) x = some x1) ∧ Aside0 (Kd.R (Kd.int .i64) 3 w' w.heap.size (fun _ => True) u8 x) ∧ Aside0 (w'.heap[gb9]? = some (.cells #[.slice B0 (rd_T60 st step).f0.length d0, .slice B1 (rd_T60 st step).f1.length d1] 60 (0, 0))) ∧ Aside0 (Below w.heap.size w w'))
      case atStart => exact ⟨_, 0, rfl, ⟨by omega⟩, ⟨by simpa using AX.out⟩, HO, ⟨by (with_reducible repeat (first | refine blk_drewN ?_ _ | refine blk_drew ?_ | refine blk_alloc ?_ _)); exact BK9.out⟩, ⟨by repeat (first | exact HB.out | apply below_alloc | apply pw_below_drewN | apply below_drew1)⟩⟩
      case round =>
        clear HO BK9 HB
        obtain ⟨x, j, rfl, HK, HA, HO, BK9, HB⟩ := hrel
        by_cases hlt : j < (rd_T60 st step).f0.length
        · obtain ⟨adk, ek, hxk⟩ := Kd.at_int (Kd.C_below HR0.out HB.out) (j : Int) (by omega) (by omega)
          cases ek
          have hA := HA.out
          rw [addAll_drop _ _ _ hlt] at hA
          by_cases hp : 0 ≤ rd (rd_T60 st step).f0 j ∧ rd (rd_T60 st step).f0 j < x.length
          · rw [if_pos hp] at hA
            obtain ⟨p, hpp⟩ : ∃ p, p = rd (rd_T60 st step).f0 j := ⟨_, rfl⟩
            rw [← hpp] at hxk hA hp
            rw [Int.toNat_natCast] at hxk
            obtain ⟨y, hy⟩ : ∃ y, y = x.set p.toNat (wrap64 (rd x p + (-1))) := ⟨_, rfl⟩
            rw [← hy] at hA
            have HY := Aside0.mk hy
            have HA2 := Aside0.mk hA
            clear hy hA HA hpp
            obtain ⟨p16, q16⟩ := hp
            obtain ⟨go16, co16, eo16, gb16, gl16, cl16, HG16⟩ := Kd.R_form HO.out (by omega)
            subst eo16
            obtain ⟨adp, ep, hxp⟩ := Kd.at_int (Kd.R_reads' HO.out).2.2 p p16 q16
            cases ep
            (first | simp only [add_plain] at hxp | skip)
            obtain ⟨hx16_0, hf16_0⟩ := Kd.R_celln 0 HO.out p p16 q16
            have GB16 := Aside0.mk gb16
            clear gb16 gl16 HG16
            have HP18 := Kd.R_putg HO.out p (wrap64 (rd x p + (-1)))
            rw [← HY.out] at HP18
            replace p16 := eq_true p16
            replace q16 := eq_true q16
            cases gk with
            | zero => exact absurd HK.out (by omega)
            | succ k1 =>
              go_wp2_with (first | ((with_reducible refine gate_store (t := 3) (p := 35) rfl ?_); refine store_event (t := 3) (p := 35) (v := ?vo_w19) (w1 := (wr.setCell ⟨go16, (p : Int).toNat, none⟩ (.int .i64 (wrap64 ((rd x p) - 1))))) ?hg ?ho ?hn ?hr ?_; (case ho => rfl); (case hg => rfl); (case hn => rfl); (case hr => first | (go_simp; done) | (go_simp; rfl)); intro w19 hw; have n0_ : Aside0 (Kd.R (Kd.int .i64) 3 w19 w.heap.size (fun _ => True) (.slice (some ⟨go16, 0, none⟩) x.length co16) y) := ⟨by rw [hw]; exact HP18.1⟩; have n1_ := Aside0.mk (blk_grown (g := gb9) (o := .cells #[.slice _ (rd_T60 st step).f0.length d0, .slice _ (rd_T60 st step).f1.length d1] 60 (0, 0)) BK9.out (show wr.grownBy w19 (some go16) by rw [hw]; exact HP18.2) (Kd.R_ne HO.out BK9.out (by decide))); have n2_ := Aside0.mk ((by rw [hw]; exact below_set (HB.out) GB16.out : Below w.heap.size w w19)); clear HO; clear BK9; clear HB; have HO := n0_; have BK9 := n1_; have HB := n2_; clear n0_ n1_ n2_; clear hw; clear HP18))
              go_roundg k1
              case measure => omega
              case rel => exact ⟨y, j + 1, by (have hlen := HR0.out.2.1; congr 1; unfold wrap64; omega), ⟨by have := HK.out; omega⟩, HA2, HO, BK9, HB⟩
          · rw [if_neg hp] at hA; cases hA
        · have hge : ¬ ((j : Int) < (rd_T60 st step).f0.length) := by omega
          have ex : x = x1 := by
            have hA := HA.out
            rw [List.drop_of_length_le (by omega)] at hA
            exact Option.some.inj hA
          subst ex
          clear HA HK
          obtain ⟨q, Q1, H⟩ := Option.bind_eq_some_iff.1 H.out
          have MQ := Aside0.mk Q1
          clear Q1
          obtain ⟨Ao, co, eo⟩ := Kd.R_slice HO.out
          subst eo
          have MC := Aside0.mk (fun W (hb : Below wr.heap.size wr W) => slices_Min_int_int.calls Ao co x q W (Kd.C_below (Kd.R_reads' HO.out).2.2 hb) (Kd.R_reads' HO.out).2.1 MQ.out)
          have WB := Aside0.mk (Below.refl wr.heap.size wr)
          have c90 := (blk_cell BK9.out 0)
          have c91 := (blk_cell BK9.out 1)
          have f90 := blk_frozen BK9.out 0
          have f91 := blk_frozen BK9.out 1
          simp at c90 c91
          by_cases hq : q < 0
          · have hqd : decide (q < 0) = true := decide_eq_true hq
            rw [if_pos hq] at H
            simp only [Option.some.injEq, Prod.mk.injEq] at H
            obtain ⟨rfl, rfl⟩ := H
            go_wp2_with fail
            refine (MC.out _ ?hb).mono ?_
            case hb => repeat (first | exact WB.out | apply below_alloc | apply pw_below_drewN | apply below_drew1)
            rintro e w2 ⟨rfl, ⟨nd, rfl⟩⟩
            go_wp2
            go_ret2
            exact ⟨_, rfl, Kd.R_nil _ _ _ _ _, by repeat (first | exact HB.out | apply below_alloc | apply pw_below_drewN | apply below_drew1)⟩
          · have hqd : decide (q < 0) = false := decide_eq_false hq
            rw [if_neg hq] at H
            obtain ⟨y2, Y2, H⟩ := Option.bind_eq_some_iff.1 H
            have AY := Aside0.mk Y2
            have H := Aside0.mk H
            clear Y2 hq
            go_wp2_with fail
            refine (MC.out _ ?hb).mono ?_
            case hb => repeat (first | exact WB.out | apply below_alloc | apply pw_below_drewN | apply below_drew1)
            rintro e w2 ⟨rfl, ⟨nd, rfl⟩⟩
            replace HO := Aside0.mk (Kd.R_drewN HO.out nd)
            replace BK9 := Aside0.mk (blk_drewN BK9.out nd)
            replace HB := Aside0.mk (pw_below_drewN HB.out nd)
            obtain ⟨xl, hxl⟩ : ∃ xl, xl = x.length := ⟨_, rfl⟩
            rw [← hxl] at HO
            rw [← hxl]
            clear hxl MC WB
            go_wp2_with fail
            go_loopg [43] (rd_T60 st step).f1.length (fun kq v43 w' => ∃ (x : List Int) (j : Nat), v43 = .int .i64 (j : Int) ∧ Aside0 (kq + j = (rd_T60 st step).f1.length) ∧ Aside0 (addAll (1) ((rd_T60 st step).f1.drop j) x = some y2) ∧ Aside0 (Kd.R (Kd.int .i64) 3 w' w.heap.size (fun _ => True) (.slice Ao xl co) x) ∧ Aside0 (w'.heap[gb9]? = some (.cells #[.slice B0 (rd_T60 st step).f0.length d0, .slice B1 (rd_T60 st step).f1.length d1] 60 (0, 0))) ∧ Aside0 (Below w.heap.size w w'))
            case atStart => exact ⟨_, 0, rfl, ⟨by omega⟩, ⟨by simpa using AY.out⟩, HO, BK9, HB⟩
            case round =>
              clear HO BK9 HB AY
              obtain ⟨x, j, rfl, HK, HA, HO, BK9, HB⟩ := hrel
              have exl : xl = x.length := (Kd.R_reads' HO.out).1
              by_cases hlt : j < (rd_T60 st step).f1.length
              · obtain ⟨adk, ek, hxk⟩ := Kd.at_int (Kd.C_below HR1.out HB.out) (j : Int) (by omega) (by omega)
                cases ek
                have hA := HA.out
                rw [addAll_drop _ _ _ hlt] at hA
                by_cases hp : 0 ≤ rd (rd_T60 st step).f1 j ∧ rd (rd_T60 st step).f1 j < x.length
                · rw [if_pos hp] at hA
                  obtain ⟨p, hpp⟩ : ∃ p, p = rd (rd_T60 st step).f1 j := ⟨_, rfl⟩
                  rw [← hpp] at hxk hA hp
                  rw [Int.toNat_natCast] at hxk
                  obtain ⟨y, hy⟩ : ∃ y, y = x.set p.toNat (wrap64 (rd x p + 1)) := ⟨_, rfl⟩
                  rw [← hy] at hA
                  have HY := Aside0.mk hy
                  have HA2 := Aside0.mk hA
                  clear hy hA HA hpp
                  obtain ⟨p16, q16⟩ := hp
                  subst exl
                  obtain ⟨go16, co16, eo16, gb16, gl16, cl16, HG16⟩ := Kd.R_form HO.out (by omega)
                  injection eo16 with ea_ en_ ec_
                  subst ea_
                  subst ec_
                  clear en_
                  obtain ⟨adp, ep, hxp⟩ := Kd.at_int (Kd.R_reads' HO.out).2.2 p p16 q16
                  cases ep
                  (first | simp only [add_plain] at hxp | skip)
                  obtain ⟨hx16_0, hf16_0⟩ := Kd.R_celln 0 HO.out p p16 q16
                  have GB16 := Aside0.mk gb16
                  clear gb16 gl16 HG16
                  have HP18 := Kd.R_putg HO.out p (wrap64 (rd x p + 1))
                  rw [← HY.out] at HP18
                  replace p16 := eq_true p16
                  replace q16 := eq_true q16
                  cases gk with
                  | zero => exact absurd HK.out (by omega)
                  | succ k1 =>
                    go_wp2
                    go_roundg k1
                    case measure => omega
                    case rel => exact ⟨y, j + 1, by (have hlen := HR1.out.2.1; congr 1; unfold wrap64; omega), ⟨by have := HK.out; omega⟩, HA2, ⟨HP18.1⟩, ⟨blk_grown BK9.out HP18.2 (Kd.R_ne HO.out BK9.out (by decide))⟩, ⟨below_set HB.out GB16.out⟩⟩
                · rw [if_neg hp] at hA; cases hA
              · have hge : ¬ ((j : Int) < (rd_T60 st step).f1.length) := by omega
                have ex : x = y2 := by
                  have hA := HA.out
                  rw [List.drop_of_length_le (by omega)] at hA
                  exact Option.some.inj hA
                subst ex
                subst exl
                clear HA HK
                obtain ⟨b, B1, H⟩ := Option.bind_eq_some_iff.1 H.out
                simp only [Option.some.injEq, Prod.mk.injEq] at H
                obtain ⟨rfl, rfl⟩ := H
                have MI := Aside0.mk (fun W (hb : Below wr.heap.size wr W) => impl_isMarking.calls Ao co x a0 b W (Kd.C_below (Kd.R_reads' HO.out).2.2 hb) (Kd.R_reads' HO.out).2.1 B1)
                have hz0' := (HB.out.cell lz0).trans hz0
                have WB := Aside0.mk (Below.refl wr.heap.size wr)
                clear B1
                go_wp2_with fail
                refine (MI.out _ ?hb).mono ?_
                case hb => repeat (first | exact WB.out | apply below_alloc | apply pw_below_drewN | apply below_drew1)
                rintro e w2 ⟨rfl, hb2⟩
                have HB2 := Aside0.mk (below_then HB.out HB.out.size hb2)
                have HO2 := Aside0.mk (Kd.R_below HO.out hb2)
                clear hb2
                go_wp2
                go_ret2
                exact ⟨_, rfl, HO2.out, HB2.out⟩
  · rw [if_neg hs] at h; cases h

end Go.Proofs.Ytnfafdlglhbijaa.PFnExactIsSound
