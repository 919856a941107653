-- written by xprint.py (a program of this session's, over the kit's print): printed functions, and some by hand
import Derived.Test.YtbljelkmmakgpaaPFnExactNextAfterx0
import Derived.Test.YtbljelkmmakgpaaPFnExactNextAfterx2
namespace Go.Proofs.Ytbljelkmmakgpaa.PFnExactNextAfter
open Go.RowKit Go.Proofs.YtbljelkmmakgpaaW.PrintWords Go.Proofs.YtbljelkmmakgpaaW.PrintLast Go.Proofs.YtbljelkmmakgpaaW.PrintMore
attribute [local go_sem] max2_int min2_int max_two min_two max_three min_three max_four min_four   -- for this text's walks alone
set_option linter.unusedVariables false
set_option linter.unusedSimpArgs false

/-! ### impl_GoodCron: function 12, by hand -/
set_option maxHeartbeats 1000000 in
theorem fields_calls (W : World) (g : Nat) (A0 A1 A2 : Option Addr) (n0 c0 n1 c1 n2 c2 : Nat) (h0 : W.cell? ⟨g, 0, none⟩ = some (.slice A0 n0 c0)) (h1 : W.cell? ⟨g, 1, none⟩ = some (.slice A1 n1 c1)) (h2 : W.cell? ⟨g, 2, none⟩ = some (.slice A2 n2 c2)) :
    Calls Try.prog 32 #[.pointer (some ⟨g, 0, none⟩)] W fun e w' => e = .returned (.slice (some ⟨W.heap.size, 0, none⟩) 3 3) ∧ ∃ n, w' = ((W.alloc (.cells #[.slice A0 n0 c0, .slice A1 n1 c1, .slice A2 n2 c2] 22)).drewN n) := by
  go_enter Try.func32, Try.ntmps32
  go_wp2
  go_region
  all_goals (go_wp2; go_ret; exact ⟨rfl, 1, rfl⟩)

theorem wrap_0 : wrap64 (0 + 1) = 0 + 1 := by unfold wrap64; omega
theorem wrap_1 : wrap64 (1 + 1) = 1 + 1 := by unfold wrap64; omega
theorem wrap_2 : wrap64 (2 + 1) = 2 + 1 := by unfold wrap64; omega
def impl_GoodCron.L (l0 l1 l2 : List Int) (i : Int) : List Int := if i = 0 then l0 else if i = 1 then l1 else l2
def impl_GoodCron.l0 : Nat → List Int → List Int → List Int → Int → Option Bool
  | 0, _, _, _, _ => none
  | k + 1, x0, x1, x2, i => if i < 3 then (if ((impl_GoodCron.L x0 x1 x2 i).length : Int) = 0 then (some false) else (impl_bounds.f).bind fun b => ((impl_rising.f k (impl_GoodCron.L x0 x1 x2 i) (rd b i)).bind fun t => (if t = true then (impl_GoodCron.l0 k x0 x1 x2 (wrap64 (i + 1))) else (some false)))) else (some true)
def impl_GoodCron.f (k : Nat) (x0 x1 x2 : List Int) : Option Bool := impl_GoodCron.l0 k x0 x1 x2 0
theorem impl_GoodCron.mono_l : ∀ k, (∀ y0 y1 y2 y3, LeO (impl_GoodCron.l0 k y0 y1 y2 y3) (impl_GoodCron.l0 (k + 1) y0 y1 y2 y3))
  | 0 => fun _ _ _ _ r h => by simp [impl_GoodCron.l0] at h
  | k + 1 => by
    have ih0 := impl_GoodCron.mono_l k
    intro y0 y1 y2 y3
    unfold impl_GoodCron.l0
    repeat' first
      | (with_reducible exact ih0 _ _ _ _)
      | (with_reducible exact impl_rising.mono _ _ _)
      | (with_reducible exact LeO.refl _)
      | (with_reducible exact LeO.none _)
      | (with_reducible refine LeO.ite ?_ ?_)
      | (with_reducible refine LeO.bind ?_ (fun _ => ?_))
theorem impl_GoodCron.mono : ∀ a0 a1 a2 k, LeO (impl_GoodCron.f k a0 a1 a2) (impl_GoodCron.f (k + 1) a0 a1 a2) := fun a0 a1 a2 k => impl_GoodCron.mono_l k _ _ _ _

set_option maxHeartbeats 8000000 in
set_option maxRecDepth 100000 in
theorem impl_GoodCron.calls (k : Nat) (A0_0 : Option Addr) (c0_0 : Nat) (l0_0 : List Int) (A0_1 : Option Addr) (c0_1 : Nat) (l0_1 : List Int) (A0_2 : Option Addr) (c0_2 : Nat) (l0_2 : List Int) (r : Bool) (w : World) (hr0_0 : Kd.C (Kd.int .i64) w A0_0 l0_0.length l0_0) (hc0_0 : l0_0.length ≤ c0_0) (hr0_1 : Kd.C (Kd.int .i64) w A0_1 l0_1.length l0_1) (hc0_1 : l0_1.length ≤ c0_1) (hr0_2 : Kd.C (Kd.int .i64) w A0_2 l0_2.length l0_2) (hc0_2 : l0_2.length ≤ c0_2) (h : impl_GoodCron.f k l0_0 l0_1 l0_2 = some r) :
    Calls Try.prog 12 #[.agg #[.slice A0_0 l0_0.length c0_0, .slice A0_1 l0_1.length c0_1, .slice A0_2 l0_2.length c0_2]] w fun e w' => e = .returned (.bool r) ∧ Below w.heap.size w w' := by
  have H' := Aside0.mk (show impl_GoodCron.l0 k l0_0 l0_1 l0_2 0 = some r from h)
  clear h
  have HR0 := Aside0.mk hr0_0
  have HR1 := Aside0.mk hr0_1
  have HR2 := Aside0.mk hr0_2
  have HC0 := Aside0.mk hc0_0
  have HC1 := Aside0.mk hc0_1
  have HC2 := Aside0.mk hc0_2
  clear hr0_0 hr0_1 hr0_2 hc0_0 hc0_1 hc0_2
  have hu27 := Try.underlying27
  go_enter Try.func12, Try.ntmps12
  go_wp2_with fail
  refine (fields_calls _ w.heap.size A0_0 A0_1 A0_2 l0_0.length c0_0 l0_1.length c0_1 l0_2.length c0_2 ?_ ?_ ?_).mono ?_
  · go_simp
  · go_simp
  · go_simp
  rintro e w1 ⟨rfl, nf, rfl⟩
  go_wp2_with fail
  go_loopg [7] k (fun kq v7 w' => ∃ x7 : Int, v7 = .int .i64 x7 ∧ Aside0 (impl_GoodCron.l0 kq l0_0 l0_1 l0_2 x7 = some r) ∧ Aside0 (kq ≤ k) ∧ Aside0 (0 ≤ x7 ∧ x7 ≤ 3) ∧ Aside0 (w.heap.size + 1 < w'.heap.size) ∧ Aside0 (Below w.heap.size w w') ∧ w'.cell? ⟨w.heap.size + 1, 0, none⟩ = some (.slice A0_0 l0_0.length c0_0) ∧ w'.cell? ⟨w.heap.size + 1, 1, none⟩ = some (.slice A0_1 l0_1.length c0_1) ∧ w'.cell? ⟨w.heap.size + 1, 2, none⟩ = some (.slice A0_2 l0_2.length c0_2))
  case atStart =>
    refine ⟨0, rfl, H', ⟨Nat.le_refl _⟩, ⟨by omega, by omega⟩, ⟨by simp⟩, ⟨pw_below_drewN (below_alloc (below_alloc (Below.refl _ _) _) _) _⟩, ?_, ?_, ?_⟩ <;> go_simp
  case round =>
    clear H'
    obtain ⟨x7, rfl, HA, HK1, HX, HS, HB, hz0, hz1, hz2⟩ := hrel
    cases gk with
    | zero => exact absurd HA.out (by simp [impl_GoodCron.l0])
    | succ k1 =>
      have H := HA.out
      clear HA
      have hx : x7 = 0 ∨ x7 = 1 ∨ x7 = 2 ∨ x7 = 3 := by have := HX.out; omega
      clear HX
      rcases hx with rfl | rfl | rfl | rfl
      · simp only [impl_GoodCron.l0] at H
        rw [if_pos (by omega)] at H
        have eL : impl_GoodCron.L l0_0 l0_1 l0_2 0 = l0_0 := rfl
        rw [eL] at H
        clear eL
        by_cases hz : (l0_0.length : Int) = 0
        · rw [if_pos hz] at H
          obtain rfl := Option.some.inj H
          have hzb : ((l0_0.length : Int) == 0) = true := beq_iff_eq.2 hz
          clear hz
          go_wp2
          go_ret
          exact ⟨rfl, HB.out⟩
        · rw [if_neg hz] at H
          have hzb : ((l0_0.length : Int) == 0) = false := beq_eq_false_iff_ne.2 hz
          clear hz
          obtain ⟨b, hb, H⟩ := Option.bind_eq_some_iff.mp H
          obtain ⟨t, ht, H⟩ := Option.bind_eq_some_iff.mp H
          have hbl : 0 < b.length := by
            have e : b = [60, 24, 7] := (Option.some.inj hb).symm
            rw [e]; decide
          have H' := Aside0.mk H
          have Ht := Aside0.mk ht
          have Hb := Aside0.mk hb
          have Hbl := Aside0.mk hbl
          clear H ht hb hbl
          go_wp2_with fail
          refine (impl_bounds.calls b _ Hb.out).mono ?_
          rintro e w1 ⟨v0, rfl, hR, hBw⟩
          obtain ⟨A, c, rfl, hlc, hC⟩ := Kd.R_reads hR
          have HR' := Aside0.mk hC
          have HBw := Aside0.mk hBw
          clear hR hlc hC hBw
          have hz0' : w1.cell? ⟨w.heap.size + 1, 0, none⟩ = some (.slice A0_0 l0_0.length c0_0) := pw_cell_below HBw.out hz0
          have hz1' : w1.cell? ⟨w.heap.size + 1, 1, none⟩ = some (.slice A0_1 l0_1.length c0_1) := pw_cell_below HBw.out hz1
          have hz2' : w1.cell? ⟨w.heap.size + 1, 2, none⟩ = some (.slice A0_2 l0_2.length c0_2) := pw_cell_below HBw.out hz2
          have HB1 := Aside0.mk (below_then HB.out HB.out.size HBw.out)
          have HS1 := Aside0.mk (Nat.lt_of_lt_of_le HS.out HBw.out.size)
          clear hz0 hz1 hz2 HB HS HBw
          have p1 : (0 : Int) < (b.length : Int) := by have := Hbl.out; omega
          obtain ⟨ad, ead, hcell⟩ := Kd.at_int HR'.out 0 (by omega) p1
          cases ead
          have hc2 : w1.cell? ad = some (.int .i64 (rd b 0)) := by simpa [Addr.add] using hcell
          go_wp2_with fail
          refine (impl_rising.calls k1 A0_0 c0_0 l0_0 (rd b 0) t _ (Kd.C_below HR0.out HB1.out) HC0.out Ht.out).mono ?_
          rintro e w2 ⟨rfl, ⟨nd, rfl⟩⟩
          cases t with
          | true =>
            have H2 : impl_GoodCron.l0 k1 l0_0 l0_1 l0_2 (0 + 1) = some r := by have z := H'.out; rw [if_pos rfl, wrap_0] at z; exact z
            clear H'
            have H3 := Aside0.mk H2
            clear H2
            go_wp2
            go_roundg k1
            case measure => have := HK1.out; omega
            case rel => exact ⟨0 + 1, rfl, H3, ⟨by have := HK1.out; omega⟩, ⟨by omega, by omega⟩, ⟨HS1.out⟩, ⟨pw_below_drewN HB1.out _⟩, hz0', hz1', hz2'⟩
          | false =>
            have H2 := H'.out
            rw [if_neg (by decide)] at H2
            obtain rfl := Option.some.inj H2
            go_wp2
            go_ret
            exact ⟨rfl, pw_below_drewN HB1.out _⟩
      · simp only [impl_GoodCron.l0] at H
        rw [if_pos (by omega)] at H
        have eL : impl_GoodCron.L l0_0 l0_1 l0_2 1 = l0_1 := rfl
        rw [eL] at H
        clear eL
        by_cases hz : (l0_1.length : Int) = 0
        · rw [if_pos hz] at H
          obtain rfl := Option.some.inj H
          have hzb : ((l0_1.length : Int) == 0) = true := beq_iff_eq.2 hz
          clear hz
          go_wp2
          go_ret
          exact ⟨rfl, HB.out⟩
        · rw [if_neg hz] at H
          have hzb : ((l0_1.length : Int) == 0) = false := beq_eq_false_iff_ne.2 hz
          clear hz
          obtain ⟨b, hb, H⟩ := Option.bind_eq_some_iff.mp H
          obtain ⟨t, ht, H⟩ := Option.bind_eq_some_iff.mp H
          have hbl : 1 < b.length := by
            have e : b = [60, 24, 7] := (Option.some.inj hb).symm
            rw [e]; decide
          have H' := Aside0.mk H
          have Ht := Aside0.mk ht
          have Hb := Aside0.mk hb
          have Hbl := Aside0.mk hbl
          clear H ht hb hbl
          go_wp2_with fail
          refine (impl_bounds.calls b _ Hb.out).mono ?_
          rintro e w1 ⟨v0, rfl, hR, hBw⟩
          obtain ⟨A, c, rfl, hlc, hC⟩ := Kd.R_reads hR
          have HR' := Aside0.mk hC
          have HBw := Aside0.mk hBw
          clear hR hlc hC hBw
          have hz0' : w1.cell? ⟨w.heap.size + 1, 0, none⟩ = some (.slice A0_0 l0_0.length c0_0) := pw_cell_below HBw.out hz0
          have hz1' : w1.cell? ⟨w.heap.size + 1, 1, none⟩ = some (.slice A0_1 l0_1.length c0_1) := pw_cell_below HBw.out hz1
          have hz2' : w1.cell? ⟨w.heap.size + 1, 2, none⟩ = some (.slice A0_2 l0_2.length c0_2) := pw_cell_below HBw.out hz2
          have HB1 := Aside0.mk (below_then HB.out HB.out.size HBw.out)
          have HS1 := Aside0.mk (Nat.lt_of_lt_of_le HS.out HBw.out.size)
          clear hz0 hz1 hz2 HB HS HBw
          have p1 : (1 : Int) < (b.length : Int) := by have := Hbl.out; omega
          obtain ⟨ad, ead, hcell⟩ := Kd.at_int HR'.out 1 (by omega) p1
          cases ead
          have hc2 : w1.cell? ⟨ad.block, ad.off + 1, none⟩ = some (.int .i64 (rd b 1)) := by simpa [Addr.add] using hcell
          go_wp2_with fail
          refine (impl_rising.calls k1 A0_1 c0_1 l0_1 (rd b 1) t _ (Kd.C_below HR1.out HB1.out) HC1.out Ht.out).mono ?_
          rintro e w2 ⟨rfl, ⟨nd, rfl⟩⟩
          cases t with
          | true =>
            have H2 : impl_GoodCron.l0 k1 l0_0 l0_1 l0_2 (1 + 1) = some r := by have z := H'.out; rw [if_pos rfl, wrap_1] at z; exact z
            clear H'
            have H3 := Aside0.mk H2
            clear H2
            go_wp2
            go_roundg k1
            case measure => have := HK1.out; omega
            case rel => exact ⟨1 + 1, rfl, H3, ⟨by have := HK1.out; omega⟩, ⟨by omega, by omega⟩, ⟨HS1.out⟩, ⟨pw_below_drewN HB1.out _⟩, hz0', hz1', hz2'⟩
          | false =>
            have H2 := H'.out
            rw [if_neg (by decide)] at H2
            obtain rfl := Option.some.inj H2
            go_wp2
            go_ret
            exact ⟨rfl, pw_below_drewN HB1.out _⟩
      · simp only [impl_GoodCron.l0] at H
        rw [if_pos (by omega)] at H
        have eL : impl_GoodCron.L l0_0 l0_1 l0_2 2 = l0_2 := rfl
        rw [eL] at H
        clear eL
        by_cases hz : (l0_2.length : Int) = 0
        · rw [if_pos hz] at H
          obtain rfl := Option.some.inj H
          have hzb : ((l0_2.length : Int) == 0) = true := beq_iff_eq.2 hz
          clear hz
          go_wp2
          go_ret
          exact ⟨rfl, HB.out⟩
        · rw [if_neg hz] at H
          have hzb : ((l0_2.length : Int) == 0) = false := beq_eq_false_iff_ne.2 hz
          clear hz
          obtain ⟨b, hb, H⟩ := Option.bind_eq_some_iff.mp H
          obtain ⟨t, ht, H⟩ := Option.bind_eq_some_iff.mp H
          have hbl : 2 < b.length := by
            have e : b = [60, 24, 7] := (Option.some.inj hb).symm
            rw [e]; decide
          have H' := Aside0.mk H
          have Ht := Aside0.mk ht
          have Hb := Aside0.mk hb
          have Hbl := Aside0.mk hbl
          clear H ht hb hbl
          go_wp2_with fail
          refine (impl_bounds.calls b _ Hb.out).mono ?_
          rintro e w1 ⟨v0, rfl, hR, hBw⟩
          obtain ⟨A, c, rfl, hlc, hC⟩ := Kd.R_reads hR
          have HR' := Aside0.mk hC
          have HBw := Aside0.mk hBw
          clear hR hlc hC hBw
          have hz0' : w1.cell? ⟨w.heap.size + 1, 0, none⟩ = some (.slice A0_0 l0_0.length c0_0) := pw_cell_below HBw.out hz0
          have hz1' : w1.cell? ⟨w.heap.size + 1, 1, none⟩ = some (.slice A0_1 l0_1.length c0_1) := pw_cell_below HBw.out hz1
          have hz2' : w1.cell? ⟨w.heap.size + 1, 2, none⟩ = some (.slice A0_2 l0_2.length c0_2) := pw_cell_below HBw.out hz2
          have HB1 := Aside0.mk (below_then HB.out HB.out.size HBw.out)
          have HS1 := Aside0.mk (Nat.lt_of_lt_of_le HS.out HBw.out.size)
          clear hz0 hz1 hz2 HB HS HBw
          have p1 : (2 : Int) < (b.length : Int) := by have := Hbl.out; omega
          obtain ⟨ad, ead, hcell⟩ := Kd.at_int HR'.out 2 (by omega) p1
          cases ead
          have hc2 : w1.cell? ⟨ad.block, ad.off + 2, none⟩ = some (.int .i64 (rd b 2)) := by simpa [Addr.add] using hcell
          go_wp2_with fail
          refine (impl_rising.calls k1 A0_2 c0_2 l0_2 (rd b 2) t _ (Kd.C_below HR2.out HB1.out) HC2.out Ht.out).mono ?_
          rintro e w2 ⟨rfl, ⟨nd, rfl⟩⟩
          cases t with
          | true =>
            have H2 : impl_GoodCron.l0 k1 l0_0 l0_1 l0_2 (2 + 1) = some r := by have z := H'.out; rw [if_pos rfl, wrap_2] at z; exact z
            clear H'
            have H3 := Aside0.mk H2
            clear H2
            go_wp2
            go_roundg k1
            case measure => have := HK1.out; omega
            case rel => exact ⟨2 + 1, rfl, H3, ⟨by have := HK1.out; omega⟩, ⟨by omega, by omega⟩, ⟨HS1.out⟩, ⟨pw_below_drewN HB1.out _⟩, hz0', hz1', hz2'⟩
          | false =>
            have H2 := H'.out
            rw [if_neg (by decide)] at H2
            obtain rfl := Option.some.inj H2
            go_wp2
            go_ret
            exact ⟨rfl, pw_below_drewN HB1.out _⟩
      · simp only [impl_GoodCron.l0] at H
        rw [if_neg (by omega)] at H
        obtain rfl := Option.some.inj H
        go_wp2
        go_ret
        exact ⟨rfl, HB.out⟩

/-! ### impl_isTime: function 37 -/
def impl_isTime.f (a0 : Int) : Option (Bool) := (impl_in.f a0 0 1000000).bind fun t151 => (some t151)
set_option maxHeartbeats 8000000 in
set_option maxRecDepth 100000 in
theorem impl_isTime.calls (a0 : Int) (r : Bool) (w : World) (h : impl_isTime.f a0 = some r) :
    Calls Try.prog 37 #[.int .i64 a0] w fun e w' => e = .returned (.bool r) ∧ Drawn0 w w' := by
  have H : ((impl_in.f a0 0 1000000).bind fun t151 => (some t151)) = some r := h
  clear h
  replace H := Option.bind_eq_some_iff.mp H
  obtain ⟨t151, A20, H⟩ := H
  replace H : (some t151) = some r := H
  have A2 := Aside0.mk A20
  clear A20
  obtain rfl := Option.some.inj H
  go_enter Try.func37, Try.ntmps37
  go_wp2_with (first | ((with_reducible refine gate_callee (f := 39) rfl ?_); refine goesL_ (some 4) rfl rfl Try.func39 (by kernel_rfl) rfl #[.int .i64 a0, .int .i64 0, .int .i64 1000000] rfl (by (try simp only [List.map_toArray, List.map_cons, List.map_nil]); first | done | rfl | (simp only [List.length_drop, List.length_take]; rfl)) ?_; (with_reducible refine (impl_in.calls a0 0 1000000 t151 _ A2.out).mono ?_); rintro e w' ⟨rfl, ⟨nd, rfl⟩⟩; refine ⟨_, rfl, ?_⟩))
  go_ret
  exact ⟨by first | rfl | (simp; done) | (simp [*]; done), by repeat (first | exact Drawn0.refl _ | apply Drawn0.step)⟩

/-! ### slices_Index_int_int: function 48 -/
def slices_Index_int_int.l0 : Nat → List Int → Int → Int → Int → Option (Int)
  | 0, _, _, _, _ => none
  | k + 1, x0, x1, x7, x8 => if x8 < x7 then (if 0 ≤ x8 then (if x8 < (x0.length : Int) then (if x1 = (rd x0 x8) then (some x8) else (slices_Index_int_int.l0 k x0 x1 x7 (wrap64 (x8 + 1)))) else (none)) else (none)) else (some (-1))
def slices_Index_int_int.f (k : Nat) (l0 : List Int) (a1 : Int) : Option (Int) := slices_Index_int_int.l0 k l0 a1 (l0.length : Int) 0
theorem slices_Index_int_int.mono_l : ∀ k, (∀ y0 y1 y2 y3, LeO (slices_Index_int_int.l0 k y0 y1 y2 y3) (slices_Index_int_int.l0 (k + 1) y0 y1 y2 y3))
  | 0 => fun _ _ _ _ r h => by simp [slices_Index_int_int.l0] at h
  | k + 1 => by
    have ih0 := slices_Index_int_int.mono_l k
    · intro y0 y1 y2 y3
      unfold slices_Index_int_int.l0
      repeat' first
      | (with_reducible exact ih0 _ _ _ _)
      | (with_reducible exact LeO.refl _)
      | (with_reducible exact LeO.none _)
      | (with_reducible refine LeO.ite ?_ ?_)
      | (with_reducible refine LeO.bind ?_ (fun _ => ?_))
      | exact ih0 _ _ _ _
      | exact LeO.none _
      | refine LeO.ite ?_ ?_
      | refine LeO.bind ?_ (fun _ => ?_)
theorem slices_Index_int_int.mono : ∀ a0 a1 k, LeO (slices_Index_int_int.f k a0 a1) (slices_Index_int_int.f (k + 1) a0 a1) := by
  intro a0 a1 k
  have ih0 := slices_Index_int_int.mono_l k
  unfold slices_Index_int_int.f
  repeat' first
      | (with_reducible exact ih0 _ _ _ _)
      | (with_reducible exact LeO.refl _)
      | (with_reducible exact LeO.none _)
      | (with_reducible refine LeO.ite ?_ ?_)
      | (with_reducible refine LeO.bind ?_ (fun _ => ?_))
      | exact ih0 _ _ _ _
      | exact LeO.none _
      | refine LeO.ite ?_ ?_
      | refine LeO.bind ?_ (fun _ => ?_)
set_option maxHeartbeats 8000000 in
set_option maxRecDepth 100000 in
theorem slices_Index_int_int.calls (k : Nat) (A0 : Option Addr) (c0 : Nat) (l0 : List Int) (a1 : Int) (r : Int) (w : World) (hr0 : Kd.C (Kd.int .i64) w A0 l0.length l0) (hc0 : l0.length ≤ c0) (h : slices_Index_int_int.f k l0 a1 = some r) :
    Calls Try.prog 48 #[.slice A0 l0.length c0, .int .i64 a1] w fun e w' => e = .returned (.int .i64 r) ∧ Drawn0 w w' := by
  have HR0 := Aside0.mk hr0
  have HC0 := Aside0.mk hc0
  clear hr0 hc0
  have H : (slices_Index_int_int.l0 k l0 a1 (l0.length : Int) 0) = some r := h
  clear h
  have H' := Aside0.mk H
  clear H
  go_enter Try.func48, Try.ntmps48
  go_wp2
  go_loopg [8] k (fun kq v8 w' => ∃ (x8_1 : Int), v8 = .int .i64 x8_1 ∧ Aside0 (slices_Index_int_int.l0 kq l0 a1 (l0.length : Int) x8_1 = some r) ∧ Aside0 (kq ≤ k) ∧ Drawn0 w w')
  case atStart => exact ⟨(0), (by first | rfl | (simp; done) | (simp [*]; done)), H', ⟨Nat.le_refl _⟩, by repeat (first | exact Drawn0.refl _ | apply Drawn0.step)⟩
  case round =>
    clear H'
    try clear p2
    obtain ⟨x8_1, rfl, HA, HK1, ⟨m1, rfl⟩⟩ := hrel
    cases gk with
    | zero => exact absurd HA.out (by simp [slices_Index_int_int.l0])
    | succ k1 =>
      have H := HA.out
      clear HA
      simp only [slices_Index_int_int.l0] at H
      by_cases c3 : x8_1 < (l0.length : Int)
      · rw [if_pos c3] at H
        have c3b0 : decide (x8_1 < (l0.length : Int)) = true := decide_eq_true c3
        clear c3
        by_cases c4 : 0 ≤ x8_1
        · rw [if_pos c4] at H
          have c4b0 : decide (0 ≤ x8_1) = true := decide_eq_true c4
          clear c4
          by_cases c5 : x8_1 < (l0.length : Int)
          · rw [if_pos c5] at H
            have c5b0 : decide (x8_1 < (l0.length : Int)) = true := decide_eq_true c5
            clear c5
            by_cases c6 : a1 = (rd l0 x8_1)
            · rw [if_pos c6] at H
              have c6b0 : (a1 == (rd l0 x8_1)) = true := beq_iff_eq.mpr c6
              have c6b1 : (a1 != (rd l0 x8_1)) = false := bne_eq_false_iff_eq.mpr c6
              clear c6
              obtain rfl := Option.some.inj H
              have p152 : 0 ≤ (x8_1 : Int) := of_decide_eq_true (by first | (with_reducible assumption) | assumption)
              have q152 : x8_1 < (l0.length : Int) := of_decide_eq_true (by first | (with_reducible assumption) | assumption)
              obtain ⟨ad152, e152, hx152_0⟩ := Kd.at_int HR0.out x8_1 p152 q152
              cases e152
              replace p152 := eq_true p152
              replace q152 := eq_true q152
              go_wp2
              go_ret
              exact ⟨by first | rfl | (simp; done) | (simp [*]; done), by repeat (first | exact Drawn0.refl _ | apply Drawn0.step)⟩
            · rw [if_neg c6] at H
              have c6b0 : (a1 == (rd l0 x8_1)) = false := beq_eq_false_iff_ne.mpr c6
              have c6b1 : (a1 != (rd l0 x8_1)) = true := bne_iff_ne.mpr c6
              have H' := Aside0.mk H
              clear H
              have p152 : 0 ≤ (x8_1 : Int) := of_decide_eq_true (by first | (with_reducible assumption) | assumption)
              have q152 : x8_1 < (l0.length : Int) := of_decide_eq_true (by first | (with_reducible assumption) | assumption)
              obtain ⟨ad152, e152, hx152_0⟩ := Kd.at_int HR0.out x8_1 p152 q152
              cases e152
              replace p152 := eq_true p152
              replace q152 := eq_true q152
              go_wp2
              go_roundg k1
              case measure => have := HK1.out; omega
              case rel => exact ⟨(wrap64 (x8_1 + 1)), (by first | rfl | (simp; done) | (simp [*]; done)), H', ⟨by have := HK1.out; omega⟩, by repeat (first | exact Drawn0.refl _ | apply Drawn0.step)⟩
          · rw [if_neg c5] at H
            exact absurd H (by simp)
        · rw [if_neg c4] at H
          exact absurd H (by simp)
      · rw [if_neg c3] at H
        have c3b0 : decide (x8_1 < (l0.length : Int)) = false := decide_eq_false c3
        clear c3
        obtain rfl := Option.some.inj H
        go_wp2
        go_ret
        exact ⟨by first | rfl | (simp; done) | (simp [*]; done), by repeat (first | exact Drawn0.refl _ | apply Drawn0.step)⟩

/-! ### slices_Contains_int_int: function 44 -/
def slices_Contains_int_int.f (k : Nat) (l0 : List Int) (a1 : Int) : Option (Bool) := (slices_Index_int_int.f k l0 a1).bind fun t153 => (some (decide (t153 ≥ 0)))
theorem slices_Contains_int_int.mono : ∀ a0 a1 k, LeO (slices_Contains_int_int.f k a0 a1) (slices_Contains_int_int.f (k + 1) a0 a1) := by
  intro a0 a1 k
  unfold slices_Contains_int_int.f
  repeat' first
      | (with_reducible exact slices_Index_int_int.mono _ _ _)
      | (with_reducible exact LeO.refl _)
      | (with_reducible exact LeO.none _)
      | (with_reducible refine LeO.ite ?_ ?_)
      | (with_reducible refine LeO.bind ?_ (fun _ => ?_))
      | exact slices_Index_int_int.mono _ _ _
      | exact LeO.none _
      | refine LeO.ite ?_ ?_
      | refine LeO.bind ?_ (fun _ => ?_)
set_option maxHeartbeats 8000000 in
set_option maxRecDepth 100000 in
theorem slices_Contains_int_int.calls (k : Nat) (A0 : Option Addr) (c0 : Nat) (l0 : List Int) (a1 : Int) (r : Bool) (w : World) (hr0 : Kd.C (Kd.int .i64) w A0 l0.length l0) (hc0 : l0.length ≤ c0) (h : slices_Contains_int_int.f k l0 a1 = some r) :
    Calls Try.prog 44 #[.slice A0 l0.length c0, .int .i64 a1] w fun e w' => e = .returned (.bool r) ∧ Drawn0 w w' := by
  have HR0 := Aside0.mk hr0
  have HC0 := Aside0.mk hc0
  clear hr0 hc0
  have H : ((slices_Index_int_int.f k l0 a1).bind fun t153 => (some (decide (t153 ≥ 0)))) = some r := h
  clear h
  replace H := Option.bind_eq_some_iff.mp H
  obtain ⟨t153, A30, H⟩ := H
  replace H : (some (decide (t153 ≥ 0))) = some r := H
  have A3 := Aside0.mk A30
  clear A30
  obtain rfl := Option.some.inj H
  go_enter Try.func44, Try.ntmps44
  go_wp2_with (first | ((with_reducible refine gate_callee (f := 48) rfl ?_); refine goesL_ (some 7) rfl rfl Try.func48 (by kernel_rfl) rfl #[.slice A0 l0.length c0, .int .i64 a1] rfl (by (try simp only [List.map_toArray, List.map_cons, List.map_nil]); first | done | rfl | (simp only [List.length_drop, List.length_take]; rfl)) ?_; (with_reducible refine (slices_Index_int_int.calls k _ _ l0 a1 t153 _ ?side1 ?side2 A3.out).mono ?_); (case side1 => repeat (first | exact HR0.out | (with_reducible refine Kd.C_alloc ?_ _) | (with_reducible refine Kd.C_drewN ?_ _) | (with_reducible refine Kd.C_drew ?_))); (case side2 => exact HC0.out); rintro e w' ⟨rfl, ⟨nd, rfl⟩⟩; refine ⟨_, rfl, ?_⟩))
  go_ret
  exact ⟨by first | rfl | (simp; done) | (simp [*]; done), by repeat (first | exact Drawn0.refl _ | apply Drawn0.step)⟩

/-! ### impl_NextAfter: function 19, by hand -/
def impl_Cron_fits.f (k : Nat) (x0 x1 x2 : List Int) (a : Int) : Option Bool := (slices_Contains_int_int.f k x0 (Int.tmod a 60)).bind fun t => (if t = true then ((slices_Contains_int_int.f k x1 (Int.tmod (wrap64 (Int.tdiv a 60)) 24)).bind fun t => (if t = true then (slices_Contains_int_int.f k x2 (Int.tmod (wrap64 (Int.tdiv a 1440)) 7)) else (some false))) else (some false))
theorem impl_Cron_fits.mono : ∀ a0 a1 a2 a3 k, LeO (impl_Cron_fits.f k a0 a1 a2 a3) (impl_Cron_fits.f (k + 1) a0 a1 a2 a3) := by
  intro a0 a1 a2 a3 k
  unfold impl_Cron_fits.f
  repeat' first
      | (with_reducible exact slices_Contains_int_int.mono _ _ _)
      | (with_reducible exact LeO.refl _)
      | (with_reducible exact LeO.none _)
      | (with_reducible refine LeO.ite ?_ ?_)
      | (with_reducible refine LeO.bind ?_ (fun _ => ?_))
set_option maxHeartbeats 8000000 in
set_option maxRecDepth 100000 in
theorem impl_Cron_fits.at (k : Nat) (g : Nat) (A0 : Option Addr) (c0 : Nat) (l0 : List Int) (A1 : Option Addr) (c1 : Nat) (l1 : List Int) (A2 : Option Addr) (c2 : Nat) (l2 : List Int) (a1 : Int) (r : Bool) (w : World)
    (z0 : w.cell? ⟨g, 0, none⟩ = some (.slice A0 l0.length c0)) (z1 : w.cell? ⟨g, 1, none⟩ = some (.slice A1 l1.length c1)) (z2 : w.cell? ⟨g, 2, none⟩ = some (.slice A2 l2.length c2))
    (hr0 : Kd.C (Kd.int .i64) w A0 l0.length l0) (hc0 : l0.length ≤ c0) (hr1 : Kd.C (Kd.int .i64) w A1 l1.length l1) (hc1 : l1.length ≤ c1) (hr2 : Kd.C (Kd.int .i64) w A2 l2.length l2) (hc2 : l2.length ≤ c2) (h : impl_Cron_fits.f k l0 l1 l2 a1 = some r) :
    Calls Try.prog 38 #[.pointer (some ⟨g, 0, none⟩), .int .i64 a1] w fun e w' => e = .returned (.bool r) ∧ Drawn0 w w' := by
  have HR0 := Aside0.mk hr0
  have HR1 := Aside0.mk hr1
  have HR2 := Aside0.mk hr2
  have HC0 := Aside0.mk hc0
  have HC1 := Aside0.mk hc1
  have HC2 := Aside0.mk hc2
  clear hr0 hr1 hr2 hc0 hc1 hc2
  unfold impl_Cron_fits.f at h
  obtain ⟨t, ht, h⟩ := Option.bind_eq_some_iff.mp h
  have Ht := Aside0.mk ht
  have H := Aside0.mk h
  clear h ht
  go_enter Try.func38, Try.ntmps38
  go_wp2_with fail
  refine (slices_Contains_int_int.calls k A0 c0 l0 (Int.tmod a1 60) t _ HR0.out HC0.out Ht.out).mono ?_
  rintro e w' ⟨rfl, ⟨nd, rfl⟩⟩
  cases t with
  | false =>
    have H2 := H.out
    rw [if_neg (by decide)] at H2
    obtain rfl := Option.some.inj H2
    go_wp2
    go_ret
    exact ⟨rfl, ⟨_, rfl⟩⟩
  | true =>
    have H2 := H.out
    rw [if_pos rfl] at H2
    clear H Ht
    obtain ⟨t, ht, h⟩ := Option.bind_eq_some_iff.mp H2
    have Ht := Aside0.mk ht
    have H := Aside0.mk h
    clear h ht H2
    go_wp2_with fail
    refine (slices_Contains_int_int.calls k A1 c1 l1 _ t _ (Kd.C_drewN HR1.out _) HC1.out Ht.out).mono ?_
    rintro e w' ⟨rfl, ⟨nd2, rfl⟩⟩
    cases t with
    | false =>
      have H2 := H.out
      rw [if_neg (by decide)] at H2
      obtain rfl := Option.some.inj H2
      go_wp2
      go_ret
      exact ⟨rfl, by repeat (first | exact Drawn0.refl _ | apply Drawn0.step)⟩
    | true =>
      have H2 := H.out
      rw [if_pos rfl] at H2
      have H3 := Aside0.mk H2
      clear H Ht H2
      go_wp2_with fail
      refine (slices_Contains_int_int.calls k A2 c2 l2 _ r _ (Kd.C_drewN HR2.out _) HC2.out H3.out).mono ?_
      rintro e w' ⟨rfl, ⟨nd3, rfl⟩⟩
      go_wp2
      go_ret
      exact ⟨rfl, by repeat (first | exact Drawn0.refl _ | apply Drawn0.step)⟩
def impl_NextAfter.l0 : Nat → List Int → List Int → List Int → Int → Option (Int × Bool)
  | 0, _, _, _, _ => none
  | k + 1, x0, x1, x2, a => (impl_Cron_fits.f k x0 x1 x2 a).bind fun t => (if t = true then (some (a, true)) else (impl_NextAfter.l0 k x0 x1 x2 (wrap64 (a + 1))))
def impl_NextAfter.f (k : Nat) (x0 x1 x2 : List Int) (a : Int) : Option (Int × Bool) := (impl_GoodCron.f k x0 x1 x2).bind fun t => (if t = true then ((impl_isTime.f a).bind fun t => (if t = true then (impl_NextAfter.l0 k x0 x1 x2 (wrap64 (a + 1))) else (some (0, false)))) else (some (0, false)))
theorem impl_NextAfter.mono_l : ∀ k, (∀ y0 y1 y2 y3, LeO (impl_NextAfter.l0 k y0 y1 y2 y3) (impl_NextAfter.l0 (k + 1) y0 y1 y2 y3))
  | 0 => fun _ _ _ _ r h => by simp [impl_NextAfter.l0] at h
  | k + 1 => by
    have ih0 := impl_NextAfter.mono_l k
    intro y0 y1 y2 y3
    unfold impl_NextAfter.l0
    repeat' first
      | (with_reducible exact ih0 _ _ _ _)
      | (with_reducible exact impl_Cron_fits.mono _ _ _ _ _)
      | (with_reducible exact LeO.refl _)
      | (with_reducible exact LeO.none _)
      | (with_reducible refine LeO.ite ?_ ?_)
      | (with_reducible refine LeO.bind ?_ (fun _ => ?_))
theorem impl_NextAfter.mono : ∀ a0 a1 a2 a3 k, LeO (impl_NextAfter.f k a0 a1 a2 a3) (impl_NextAfter.f (k + 1) a0 a1 a2 a3) := by
  intro a0 a1 a2 a3 k
  have ih0 := impl_NextAfter.mono_l k
  unfold impl_NextAfter.f
  repeat' first
      | (with_reducible exact ih0 _ _ _ _)
      | (with_reducible exact impl_GoodCron.mono _ _ _ _)
      | (with_reducible exact LeO.refl _)
      | (with_reducible exact LeO.none _)
      | (with_reducible refine LeO.ite ?_ ?_)
      | (with_reducible refine LeO.bind ?_ (fun _ => ?_))
set_option maxHeartbeats 8000000 in
set_option maxRecDepth 100000 in
theorem impl_NextAfter.calls (k : Nat) (A0_0 : Option Addr) (c0_0 : Nat) (l0_0 : List Int) (A0_1 : Option Addr) (c0_1 : Nat) (l0_1 : List Int) (A0_2 : Option Addr) (c0_2 : Nat) (l0_2 : List Int) (a1 : Int) (r1 : Int) (r2 : Bool) (w : World) (hr0_0 : Kd.C (Kd.int .i64) w A0_0 l0_0.length l0_0) (hc0_0 : l0_0.length ≤ c0_0) (hr0_1 : Kd.C (Kd.int .i64) w A0_1 l0_1.length l0_1) (hc0_1 : l0_1.length ≤ c0_1) (hr0_2 : Kd.C (Kd.int .i64) w A0_2 l0_2.length l0_2) (hc0_2 : l0_2.length ≤ c0_2) (h : impl_NextAfter.f k l0_0 l0_1 l0_2 a1 = some (r1, r2)) :
    Calls Try.prog 19 #[.agg #[.slice A0_0 l0_0.length c0_0, .slice A0_1 l0_1.length c0_1, .slice A0_2 l0_2.length c0_2], .int .i64 a1] w fun e w' => e = .returned (.tuple #[.int .i64 r1, .bool r2]) ∧ Below w.heap.size w w' := by
  have HR0 := Aside0.mk hr0_0
  have HR1 := Aside0.mk hr0_1
  have HR2 := Aside0.mk hr0_2
  have HC0 := Aside0.mk hc0_0
  have HC1 := Aside0.mk hc0_1
  have HC2 := Aside0.mk hc0_2
  clear hr0_0 hr0_1 hr0_2 hc0_0 hc0_1 hc0_2
  have hu27 := Try.underlying27
  unfold impl_NextAfter.f at h
  obtain ⟨t, ht, h⟩ := Option.bind_eq_some_iff.mp h
  have Ht := Aside0.mk ht
  have H := Aside0.mk h
  clear h ht
  go_enter Try.func19, Try.ntmps19
  have hw0 : (w.alloc (.cells #[.slice A0_0 l0_0.length c0_0, .slice A0_1 l0_1.length c0_1, .slice A0_2 l0_2.length c0_2] 27)).cell? ⟨w.heap.size, 0, none⟩ = some (.slice A0_0 l0_0.length c0_0) := by go_simp
  have hw1 : (w.alloc (.cells #[.slice A0_0 l0_0.length c0_0, .slice A0_1 l0_1.length c0_1, .slice A0_2 l0_2.length c0_2] 27)).cell? ⟨w.heap.size, 1, none⟩ = some (.slice A0_1 l0_1.length c0_1) := by go_simp
  have hw2 : (w.alloc (.cells #[.slice A0_0 l0_0.length c0_0, .slice A0_1 l0_1.length c0_1, .slice A0_2 l0_2.length c0_2] 27)).cell? ⟨w.heap.size, 2, none⟩ = some (.slice A0_2 l0_2.length c0_2) := by go_simp
  go_wp2_with fail
  refine (impl_GoodCron.calls k _ _ l0_0 _ _ l0_1 _ _ l0_2 t _ (Kd.C_alloc HR0.out _) HC0.out (Kd.C_alloc HR1.out _) HC1.out (Kd.C_alloc HR2.out _) HC2.out Ht.out).mono ?_
  rintro e w1 ⟨rfl, hb⟩
  have z0 := pw_cell_below hb hw0
  have z1 := pw_cell_below hb hw1
  have z2 := pw_cell_below hb hw2
  have HB := Aside0.mk (below_then (below_alloc (Below.refl w.heap.size w) _) (by simp) hb)
  clear hb hw0 hw1 hw2
  cases t with
  | false =>
    have H2 := H.out
    rw [if_neg (by decide)] at H2
    obtain ⟨rfl, rfl⟩ := Prod.mk.inj (Option.some.inj H2)
    go_wp2
    go_ret2
    exact ⟨rfl, HB.out⟩
  | true =>
    have H2 := H.out
    rw [if_pos rfl] at H2
    clear H Ht
    obtain ⟨t, ht, h⟩ := Option.bind_eq_some_iff.mp H2
    have Ht := Aside0.mk ht
    have H := Aside0.mk h
    clear h ht H2
    go_wp2_with fail
    refine (impl_isTime.calls a1 t _ Ht.out).mono ?_
    rintro e w' ⟨rfl, ⟨nd, rfl⟩⟩
    have z0' : (w1.drewN nd).cell? ⟨w.heap.size, 0, none⟩ = some (.slice A0_0 l0_0.length c0_0) := z0
    have z1' : (w1.drewN nd).cell? ⟨w.heap.size, 1, none⟩ = some (.slice A0_1 l0_1.length c0_1) := z1
    have z2' : (w1.drewN nd).cell? ⟨w.heap.size, 2, none⟩ = some (.slice A0_2 l0_2.length c0_2) := z2
    clear z0 z1 z2
    cases t with
    | false =>
      have H2 := H.out
      rw [if_neg (by decide)] at H2
      obtain ⟨rfl, rfl⟩ := Prod.mk.inj (Option.some.inj H2)
      go_wp2
      go_ret2
      exact ⟨rfl, pw_below_drewN HB.out _⟩
    | true =>
      have H2 := H.out
      rw [if_pos rfl] at H2
      clear H Ht
      have H' := Aside0.mk H2
      clear H2
      go_wp2_with fail
      go_loopg [1] k (fun kq v1 w' => ∃ x1 : Int, v1 = .int .i64 x1 ∧ Aside0 (impl_NextAfter.l0 kq l0_0 l0_1 l0_2 x1 = some (r1, r2)) ∧ Aside0 (kq ≤ k) ∧ Aside0 (Below w.heap.size w w') ∧ w'.cell? ⟨w.heap.size, 0, none⟩ = some (.slice A0_0 l0_0.length c0_0) ∧ w'.cell? ⟨w.heap.size, 1, none⟩ = some (.slice A0_1 l0_1.length c0_1) ∧ w'.cell? ⟨w.heap.size, 2, none⟩ = some (.slice A0_2 l0_2.length c0_2))
      case atStart => exact ⟨_, rfl, H', ⟨Nat.le_refl _⟩, ⟨pw_below_drewN HB.out _⟩, z0', z1', z2'⟩
      case round =>
        clear H' HB z0' z1' z2'
        obtain ⟨x1, rfl, HA, HK1, HB, z0, z1, z2⟩ := hrel
        cases gk with
        | zero => exact absurd HA.out (by simp [impl_NextAfter.l0])
        | succ k1 =>
          have H2 := HA.out
          clear HA
          simp only [impl_NextAfter.l0] at H2
          obtain ⟨t, ht, h⟩ := Option.bind_eq_some_iff.mp H2
          have Ht := Aside0.mk ht
          have H := Aside0.mk h
          clear h ht H2
          go_wp2_with fail
          refine (impl_Cron_fits.at k1 w.heap.size A0_0 c0_0 l0_0 A0_1 c0_1 l0_1 A0_2 c0_2 l0_2 x1 t _ z0 z1 z2 (Kd.C_below HR0.out HB.out) HC0.out (Kd.C_below HR1.out HB.out) HC1.out (Kd.C_below HR2.out HB.out) HC2.out Ht.out).mono ?_
          rintro e w' ⟨rfl, ⟨nd2, rfl⟩⟩
          cases t with
          | true =>
            have H2 := H.out
            rw [if_pos rfl] at H2
            obtain ⟨rfl, rfl⟩ := Prod.mk.inj (Option.some.inj H2)
            go_wp2
            go_ret2
            exact ⟨rfl, pw_below_drewN HB.out _⟩
          | false =>
            have H2 := H.out
            rw [if_neg (by decide)] at H2
            have H3 := Aside0.mk H2
            clear H H2
            go_wp2
            go_roundg k1
            case measure => have := HK1.out; omega
            case rel => exact ⟨_, rfl, H3, ⟨by have := HK1.out; omega⟩, ⟨pw_below_drewN HB.out _⟩, z0, z1, z2⟩

end Go.Proofs.Ytbljelkmmakgpaa.PFnExactNextAfter
