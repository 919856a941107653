-- written by xprint.py (a program of this session's, over the kit's print): printed functions, and some by hand
import Derived.Test.YtbljelkmmakgpaaDoorPFnExactCronTextx0
import Derived.Test.YtbljelkmmakgpaaDoorPFnExactCronTextx2
namespace Go.Proofs.YtbljelkmmakgpaaDoor.PFnExactCronText
open Go.RowKit Go.Proofs.YtbljelkmmakgpaaDoorW.PrintWords Go.Proofs.YtbljelkmmakgpaaDoorW.PrintLast Go.Proofs.YtbljelkmmakgpaaDoorW.PrintMore
attribute [local go_sem] max2_int min2_int max_two min_two max_three min_three max_four min_four   -- for this text's walks alone
set_option linter.unusedVariables false
set_option linter.unusedSimpArgs false

/-! ### impl_GoodCron: function 18, by hand -/
set_option maxHeartbeats 1000000 in
theorem fields_calls (W : World) (g : Nat) (A0 A1 A2 : Option Addr) (n0 c0 n1 c1 n2 c2 : Nat) (h0 : W.cell? ⟨g, 0, none⟩ = some (.slice A0 n0 c0)) (h1 : W.cell? ⟨g, 1, none⟩ = some (.slice A1 n1 c1)) (h2 : W.cell? ⟨g, 2, none⟩ = some (.slice A2 n2 c2)) :
    Calls Tryd.prog 19 #[.pointer (some ⟨g, 0, none⟩)] W fun e w' => e = .returned (.slice (some ⟨W.heap.size, 0, none⟩) 3 3) ∧ ∃ n, w' = ((W.alloc (.cells #[.slice A0 n0 c0, .slice A1 n1 c1, .slice A2 n2 c2] 22)).drewN n) := by
  go_enter Tryd.func19, Tryd.ntmps19
  go_wp2
  go_region
  all_goals (go_wp2; go_ret; exact ⟨rfl, 1, rfl⟩)

theorem wrap_0 : wrap64 (0 + 1) = 0 + 1 := by unfold wrap64; omega
theorem wrap_1 : wrap64 (1 + 1) = 1 + 1 := by unfold wrap64; omega
theorem wrap_2 : wrap64 (2 + 1) = 2 + 1 := by unfold wrap64; omega
def impl_GoodCron.L (l0 l1 l2 : List Int) (i : Int) : List Int := if i = 0 then l0 else if i = 1 then l1 else l2
def impl_GoodCron.l0 : Nat → List Int → List Int → List Int → Int → Option Bool
  | 0, _, _, _, _ => none
  | k + 1, x0, x1, x2, i => if i < 3 then (if ((impl_GoodCron.L x0 x1 x2 i).length : Int) = 0 then (some false) else (impl_bounds.f).bind fun b => ((impl_rising.f k (impl_GoodCron.L x0 x1 x2 i) (rd b i)).bind fun t => (if t = true then (impl_GoodCron.l0 k x0 x1 x2 (wrap64 (i + 1))) else (some false)))) else (some true)
def impl_GoodCron.f (k : Nat) (x0 x1 x2 : List Int) : Option Bool := impl_GoodCron.l0 k x0 x1 x2 0
theorem impl_GoodCron.mono_l : ∀ k, (∀ y0 y1 y2 y3, LeO (impl_GoodCron.l0 k y0 y1 y2 y3) (impl_GoodCron.l0 (k + 1) y0 y1 y2 y3))
  | 0 => fun _ _ _ _ r h => by simp [impl_GoodCron.l0] at h
  | k + 1 => by
    have ih0 := impl_GoodCron.mono_l k
    intro y0 y1 y2 y3
    unfold impl_GoodCron.l0
    repeat' first
      | (with_reducible exact ih0 _ _ _ _)
      | (with_reducible exact impl_rising.mono _ _ _)
      | (with_reducible exact LeO.refl _)
      | (with_reducible exact LeO.none _)
      | (with_reducible refine LeO.ite ?_ ?_)
      | (with_reducible refine LeO.bind ?_ (fun _ => ?_))
theorem impl_GoodCron.mono : ∀ a0 a1 a2 k, LeO (impl_GoodCron.f k a0 a1 a2) (impl_GoodCron.f (k + 1) a0 a1 a2) := fun a0 a1 a2 k => impl_GoodCron.mono_l k _ _ _ _

set_option maxHeartbeats 8000000 in
set_option maxRecDepth 100000 in
theorem impl_GoodCron.calls (k : Nat) (A0_0 : Option Addr) (c0_0 : Nat) (l0_0 : List Int) (A0_1 : Option Addr) (c0_1 : Nat) (l0_1 : List Int) (A0_2 : Option Addr) (c0_2 : Nat) (l0_2 : List Int) (r : Bool) (w : World) (hr0_0 : Kd.C (Kd.int .i64) w A0_0 l0_0.length l0_0) (hc0_0 : l0_0.length ≤ c0_0) (hr0_1 : Kd.C (Kd.int .i64) w A0_1 l0_1.length l0_1) (hc0_1 : l0_1.length ≤ c0_1) (hr0_2 : Kd.C (Kd.int .i64) w A0_2 l0_2.length l0_2) (hc0_2 : l0_2.length ≤ c0_2) (h : impl_GoodCron.f k l0_0 l0_1 l0_2 = some r) :
    Calls Tryd.prog 18 #[.agg #[.slice A0_0 l0_0.length c0_0, .slice A0_1 l0_1.length c0_1, .slice A0_2 l0_2.length c0_2]] w fun e w' => e = .returned (.bool r) ∧ Below w.heap.size w w' := by
  have H' := Aside0.mk (show impl_GoodCron.l0 k l0_0 l0_1 l0_2 0 = some r from h)
  clear h
  have HR0 := Aside0.mk hr0_0
  have HR1 := Aside0.mk hr0_1
  have HR2 := Aside0.mk hr0_2
  have HC0 := Aside0.mk hc0_0
  have HC1 := Aside0.mk hc0_1
  have HC2 := Aside0.mk hc0_2
  clear hr0_0 hr0_1 hr0_2 hc0_0 hc0_1 hc0_2
  have hu28 := Tryd.underlying28
  go_enter Tryd.func18, Tryd.ntmps18
  go_wp2_with fail
  refine (fields_calls _ w.heap.size A0_0 A0_1 A0_2 l0_0.length c0_0 l0_1.length c0_1 l0_2.length c0_2 ?_ ?_ ?_).mono ?_
  · go_simp
  · go_simp
  · go_simp
  rintro e w1 ⟨rfl, nf, rfl⟩
  go_wp2_with fail
  go_loopg [7] k (fun kq v7 w' => ∃ x7 : Int, v7 = .int .i64 x7 ∧ Aside0 (impl_GoodCron.l0 kq l0_0 l0_1 l0_2 x7 = some r) ∧ Aside0 (kq ≤ k) ∧ Aside0 (0 ≤ x7 ∧ x7 ≤ 3) ∧ Aside0 (w.heap.size + 1 < w'.heap.size) ∧ Aside0 (Below w.heap.size w w') ∧ w'.cell? ⟨w.heap.size + 1, 0, none⟩ = some (.slice A0_0 l0_0.length c0_0) ∧ w'.cell? ⟨w.heap.size + 1, 1, none⟩ = some (.slice A0_1 l0_1.length c0_1) ∧ w'.cell? ⟨w.heap.size + 1, 2, none⟩ = some (.slice A0_2 l0_2.length c0_2))
  case atStart =>
    refine ⟨0, rfl, H', ⟨Nat.le_refl _⟩, ⟨by omega, by omega⟩, ⟨by simp⟩, ⟨pw_below_drewN (below_alloc (below_alloc (Below.refl _ _) _) _) _⟩, ?_, ?_, ?_⟩ <;> go_simp
  case round =>
    clear H'
    obtain ⟨x7, rfl, HA, HK1, HX, HS, HB, hz0, hz1, hz2⟩ := hrel
    cases gk with
    | zero => exact absurd HA.out (by simp [impl_GoodCron.l0])
    | succ k1 =>
      have H := HA.out
      clear HA
      have hx : x7 = 0 ∨ x7 = 1 ∨ x7 = 2 ∨ x7 = 3 := by have := HX.out; omega
      clear HX
      rcases hx with rfl | rfl | rfl | rfl
      · simp only [impl_GoodCron.l0] at H
        rw [if_pos (by omega)] at H
        have eL : impl_GoodCron.L l0_0 l0_1 l0_2 0 = l0_0 := rfl
        rw [eL] at H
        clear eL
        by_cases hz : (l0_0.length : Int) = 0
        · rw [if_pos hz] at H
          obtain rfl := Option.some.inj H
          have hzb : ((l0_0.length : Int) == 0) = true := beq_iff_eq.2 hz
          clear hz
          go_wp2
          go_ret
          exact ⟨rfl, HB.out⟩
        · rw [if_neg hz] at H
          have hzb : ((l0_0.length : Int) == 0) = false := beq_eq_false_iff_ne.2 hz
          clear hz
          obtain ⟨b, hb, H⟩ := Option.bind_eq_some_iff.mp H
          obtain ⟨t, ht, H⟩ := Option.bind_eq_some_iff.mp H
          have hbl : 0 < b.length := by
            have e : b = [60, 24, 7] := (Option.some.inj hb).symm
            rw [e]; decide
          have H' := Aside0.mk H
          have Ht := Aside0.mk ht
          have Hb := Aside0.mk hb
          have Hbl := Aside0.mk hbl
          clear H ht hb hbl
          go_wp2_with fail
          refine (impl_bounds.calls b _ Hb.out).mono ?_
          rintro e w1 ⟨v0, rfl, hR, hBw⟩
          obtain ⟨A, c, rfl, hlc, hC⟩ := Kd.R_reads hR
          have HR' := Aside0.mk hC
          have HBw := Aside0.mk hBw
          clear hR hlc hC hBw
          have hz0' : w1.cell? ⟨w.heap.size + 1, 0, none⟩ = some (.slice A0_0 l0_0.length c0_0) := pw_cell_below HBw.out hz0
          have hz1' : w1.cell? ⟨w.heap.size + 1, 1, none⟩ = some (.slice A0_1 l0_1.length c0_1) := pw_cell_below HBw.out hz1
          have hz2' : w1.cell? ⟨w.heap.size + 1, 2, none⟩ = some (.slice A0_2 l0_2.length c0_2) := pw_cell_below HBw.out hz2
          have HB1 := Aside0.mk (below_then HB.out HB.out.size HBw.out)
          have HS1 := Aside0.mk (Nat.lt_of_lt_of_le HS.out HBw.out.size)
          clear hz0 hz1 hz2 HB HS HBw
          have p1 : (0 : Int) < (b.length : Int) := by have := Hbl.out; omega
          obtain ⟨ad, ead, hcell⟩ := Kd.at_int HR'.out 0 (by omega) p1
          cases ead
          have hc2 : w1.cell? ad = some (.int .i64 (rd b 0)) := by simpa [Addr.add] using hcell
          go_wp2_with fail
          refine (impl_rising.calls k1 A0_0 c0_0 l0_0 (rd b 0) t _ (Kd.C_below HR0.out HB1.out) HC0.out Ht.out).mono ?_
          rintro e w2 ⟨rfl, ⟨nd, rfl⟩⟩
          cases t with
          | true =>
            have H2 : impl_GoodCron.l0 k1 l0_0 l0_1 l0_2 (0 + 1) = some r := by have z := H'.out; rw [if_pos rfl, wrap_0] at z; exact z
            clear H'
            have H3 := Aside0.mk H2
            clear H2
            go_wp2
            go_roundg k1
            case measure => have := HK1.out; omega
            case rel => exact ⟨0 + 1, rfl, H3, ⟨by have := HK1.out; omega⟩, ⟨by omega, by omega⟩, ⟨HS1.out⟩, ⟨pw_below_drewN HB1.out _⟩, hz0', hz1', hz2'⟩
          | false =>
            have H2 := H'.out
            rw [if_neg (by decide)] at H2
            obtain rfl := Option.some.inj H2
            go_wp2
            go_ret
            exact ⟨rfl, pw_below_drewN HB1.out _⟩
      · simp only [impl_GoodCron.l0] at H
        rw [if_pos (by omega)] at H
        have eL : impl_GoodCron.L l0_0 l0_1 l0_2 1 = l0_1 := rfl
        rw [eL] at H
        clear eL
        by_cases hz : (l0_1.length : Int) = 0
        · rw [if_pos hz] at H
          obtain rfl := Option.some.inj H
          have hzb : ((l0_1.length : Int) == 0) = true := beq_iff_eq.2 hz
          clear hz
          go_wp2
          go_ret
          exact ⟨rfl, HB.out⟩
        · rw [if_neg hz] at H
          have hzb : ((l0_1.length : Int) == 0) = false := beq_eq_false_iff_ne.2 hz
          clear hz
          obtain ⟨b, hb, H⟩ := Option.bind_eq_some_iff.mp H
          obtain ⟨t, ht, H⟩ := Option.bind_eq_some_iff.mp H
          have hbl : 1 < b.length := by
            have e : b = [60, 24, 7] := (Option.some.inj hb).symm
            rw [e]; decide
          have H' := Aside0.mk H
          have Ht := Aside0.mk ht
          have Hb := Aside0.mk hb
          have Hbl := Aside0.mk hbl
          clear H ht hb hbl
          go_wp2_with fail
          refine (impl_bounds.calls b _ Hb.out).mono ?_
          rintro e w1 ⟨v0, rfl, hR, hBw⟩
          obtain ⟨A, c, rfl, hlc, hC⟩ := Kd.R_reads hR
          have HR' := Aside0.mk hC
          have HBw := Aside0.mk hBw
          clear hR hlc hC hBw
          have hz0' : w1.cell? ⟨w.heap.size + 1, 0, none⟩ = some (.slice A0_0 l0_0.length c0_0) := pw_cell_below HBw.out hz0
          have hz1' : w1.cell? ⟨w.heap.size + 1, 1, none⟩ = some (.slice A0_1 l0_1.length c0_1) := pw_cell_below HBw.out hz1
          have hz2' : w1.cell? ⟨w.heap.size + 1, 2, none⟩ = some (.slice A0_2 l0_2.length c0_2) := pw_cell_below HBw.out hz2
          have HB1 := Aside0.mk (below_then HB.out HB.out.size HBw.out)
          have HS1 := Aside0.mk (Nat.lt_of_lt_of_le HS.out HBw.out.size)
          clear hz0 hz1 hz2 HB HS HBw
          have p1 : (1 : Int) < (b.length : Int) := by have := Hbl.out; omega
          obtain ⟨ad, ead, hcell⟩ := Kd.at_int HR'.out 1 (by omega) p1
          cases ead
          have hc2 : w1.cell? ⟨ad.block, ad.off + 1, none⟩ = some (.int .i64 (rd b 1)) := by simpa [Addr.add] using hcell
          go_wp2_with fail
          refine (impl_rising.calls k1 A0_1 c0_1 l0_1 (rd b 1) t _ (Kd.C_below HR1.out HB1.out) HC1.out Ht.out).mono ?_
          rintro e w2 ⟨rfl, ⟨nd, rfl⟩⟩
          cases t with
          | true =>
            have H2 : impl_GoodCron.l0 k1 l0_0 l0_1 l0_2 (1 + 1) = some r := by have z := H'.out; rw [if_pos rfl, wrap_1] at z; exact z
            clear H'
            have H3 := Aside0.mk H2
            clear H2
            go_wp2
            go_roundg k1
            case measure => have := HK1.out; omega
            case rel => exact ⟨1 + 1, rfl, H3, ⟨by have := HK1.out; omega⟩, ⟨by omega, by omega⟩, ⟨HS1.out⟩, ⟨pw_below_drewN HB1.out _⟩, hz0', hz1', hz2'⟩
          | false =>
            have H2 := H'.out
            rw [if_neg (by decide)] at H2
            obtain rfl := Option.some.inj H2
            go_wp2
            go_ret
            exact ⟨rfl, pw_below_drewN HB1.out _⟩
      · simp only [impl_GoodCron.l0] at H
        rw [if_pos (by omega)] at H
        have eL : impl_GoodCron.L l0_0 l0_1 l0_2 2 = l0_2 := rfl
        rw [eL] at H
        clear eL
        by_cases hz : (l0_2.length : Int) = 0
        · rw [if_pos hz] at H
          obtain rfl := Option.some.inj H
          have hzb : ((l0_2.length : Int) == 0) = true := beq_iff_eq.2 hz
          clear hz
          go_wp2
          go_ret
          exact ⟨rfl, HB.out⟩
        · rw [if_neg hz] at H
          have hzb : ((l0_2.length : Int) == 0) = false := beq_eq_false_iff_ne.2 hz
          clear hz
          obtain ⟨b, hb, H⟩ := Option.bind_eq_some_iff.mp H
          obtain ⟨t, ht, H⟩ := Option.bind_eq_some_iff.mp H
          have hbl : 2 < b.length := by
            have e : b = [60, 24, 7] := (Option.some.inj hb).symm
            rw [e]; decide
          have H' := Aside0.mk H
          have Ht := Aside0.mk ht
          have Hb := Aside0.mk hb
          have Hbl := Aside0.mk hbl
          clear H ht hb hbl
          go_wp2_with fail
          refine (impl_bounds.calls b _ Hb.out).mono ?_
          rintro e w1 ⟨v0, rfl, hR, hBw⟩
          obtain ⟨A, c, rfl, hlc, hC⟩ := Kd.R_reads hR
          have HR' := Aside0.mk hC
          have HBw := Aside0.mk hBw
          clear hR hlc hC hBw
          have hz0' : w1.cell? ⟨w.heap.size + 1, 0, none⟩ = some (.slice A0_0 l0_0.length c0_0) := pw_cell_below HBw.out hz0
          have hz1' : w1.cell? ⟨w.heap.size + 1, 1, none⟩ = some (.slice A0_1 l0_1.length c0_1) := pw_cell_below HBw.out hz1
          have hz2' : w1.cell? ⟨w.heap.size + 1, 2, none⟩ = some (.slice A0_2 l0_2.length c0_2) := pw_cell_below HBw.out hz2
          have HB1 := Aside0.mk (below_then HB.out HB.out.size HBw.out)
          have HS1 := Aside0.mk (Nat.lt_of_lt_of_le HS.out HBw.out.size)
          clear hz0 hz1 hz2 HB HS HBw
          have p1 : (2 : Int) < (b.length : Int) := by have := Hbl.out; omega
          obtain ⟨ad, ead, hcell⟩ := Kd.at_int HR'.out 2 (by omega) p1
          cases ead
          have hc2 : w1.cell? ⟨ad.block, ad.off + 2, none⟩ = some (.int .i64 (rd b 2)) := by simpa [Addr.add] using hcell
          go_wp2_with fail
          refine (impl_rising.calls k1 A0_2 c0_2 l0_2 (rd b 2) t _ (Kd.C_below HR2.out HB1.out) HC2.out Ht.out).mono ?_
          rintro e w2 ⟨rfl, ⟨nd, rfl⟩⟩
          cases t with
          | true =>
            have H2 : impl_GoodCron.l0 k1 l0_0 l0_1 l0_2 (2 + 1) = some r := by have z := H'.out; rw [if_pos rfl, wrap_2] at z; exact z
            clear H'
            have H3 := Aside0.mk H2
            clear H2
            go_wp2
            go_roundg k1
            case measure => have := HK1.out; omega
            case rel => exact ⟨2 + 1, rfl, H3, ⟨by have := HK1.out; omega⟩, ⟨by omega, by omega⟩, ⟨HS1.out⟩, ⟨pw_below_drewN HB1.out _⟩, hz0', hz1', hz2'⟩
          | false =>
            have H2 := H'.out
            rw [if_neg (by decide)] at H2
            obtain rfl := Option.some.inj H2
            go_wp2
            go_ret
            exact ⟨rfl, pw_below_drewN HB1.out _⟩
      · simp only [impl_GoodCron.l0] at H
        rw [if_neg (by omega)] at H
        obtain rfl := Option.some.inj H
        go_wp2
        go_ret
        exact ⟨rfl, HB.out⟩

/-! ### strconv_Itoa: function 20, by hand -/
def strconv_Itoa.f (a0 : Int) : Option ByteArray := if 0 ≤ a0 ∧ a0 < 100 then some ⟨(Lib.decDigits a0.toNat).toArray⟩ else none
theorem strconv_Itoa.calls (a0 : Int) (r : ByteArray) (w : World) (h : strconv_Itoa.f a0 = some r) :
    Calls Tryd.prog 20 #[.int .i64 a0] w fun e w' => e = .returned (.string r) ∧ Drawn0 w w' := by
  unfold strconv_Itoa.f at h
  split at h
  case isFalse => cases h
  rename_i hh
  obtain rfl := Option.some.inj h
  obtain ⟨n, rfl⟩ : ∃ n : Nat, a0 = n := ⟨a0.toNat, by omega⟩
  rw [Int.toNat_natCast]
  refine (Any.strconv_Itoa_small Tryd.lays171 n (by omega) w).mono ?_
  rintro e w' ⟨rfl, rfl⟩
  exact ⟨rfl, ⟨0, rfl⟩⟩

/-! ### strings_Join: function 22, by hand -/
def strings_Join.f (l0 : List ByteArray) (a1 : ByteArray) : Option ByteArray := if l0.length ≤ 140737488355328 ∧ (Lib.join (l0.map (·.data.toList)) a1.data.toList).length ≤ 140737488355328 then some ⟨(Lib.join (l0.map (·.data.toList)) a1.data.toList).toArray⟩ else none
theorem addr_plain {w : World} {ad : Addr} {v : Value} (h : w.cell? ad = some v) : ad = ⟨ad.block, ad.off, none⟩ := by
  obtain ⟨b, o, s⟩ := ad
  cases s with
  | none => rfl
  | some x =>
    unfold World.cell? at h
    split at h
    · simp at h
    · cases h
theorem strings_Join.calls (A0 : Option Addr) (c0 : Nat) (l0 : List ByteArray) (a1 : ByteArray) (r : ByteArray) (w : World) (hr0 : Kd.C Kd.string w A0 l0.length l0) (hc0 : l0.length ≤ c0) (h : strings_Join.f l0 a1 = some r) :
    Calls Tryd.prog 22 #[.slice A0 l0.length c0, .string a1] w fun e w' => e = .returned (.string r) ∧ Below w.heap.size w w' := by
  unfold strings_Join.f at h
  split at h
  case isFalse => cases h
  rename_i hh
  obtain rfl := Option.some.inj h
  by_cases hn : l0.length = 0
  · have e := List.length_eq_zero_iff.1 hn
    subst e
    refine (Any.strings_Join_none Tryd.lays156 Tryd.Builder_Extra_156 A0 c0 a1 w).mono ?_
    rintro e w' ⟨rfl, rfl⟩
    exact ⟨rfl, Below.refl _ _⟩
  · obtain ⟨ad, rfl, hc⟩ := hr0.2.2 (by omega)
    have hcell : ∀ (j : Nat) x, l0[j]? = some x → w.cell? (ad.add j) = some (.string x) := by
      intro j x hj
      obtain ⟨c, hs, hK, hcl⟩ := hc j x hj
      have hK' : c = [Value.string x] := hK
      subst hK'
      have h2 := hcl 0 (Value.string x) rfl
      rwa [show Kd.string.sz = 1 from rfl, Nat.mul_one, Nat.add_zero] at h2
    have h0 := hcell 0 l0[0] (List.getElem?_eq_getElem (by omega))
    rw [show ad.add 0 = ad from rfl] at h0
    have hp := addr_plain h0
    have hb : ad.block < w.heap.size := World.block_lt_of_cell? w ad h0
    obtain ⟨b, o, s⟩ := ad
    simp only at hp hb
    injection hp with _ _ hs
    subst hs
    refine Any.strings_Join Tryd.lays156 Tryd.Builder_Extra_156 b o c0 l0 a1 w (fun j x hj => ?_) hb (by omega) hc0 hh.2
    have h2 := hcell j x hj
    rw [← h2]
    congr 1
    unfold Addr.add
    split
    · rename_i e; rw [e]; rfl
    · rfl

/-! ### impl_CronText: function 8, by hand -/
def ctRow (xs : List (List Int)) (i : Int) : List Int := xs.getD i.toNat []
mutual
def impl_CronText.l0 : Nat → List ByteArray → List (List Int) → Int → Int → Option (ByteArray × Bool)
  | 0, _, _, _, _ => none
  | k + 1, x4, x14, x15, x16 => if x16 < x15 then (if 0 ≤ x16 then (if x16 < (x14.length : Int) then (impl_CronText.l1 k x4 x16 (ctRow x14 x16) (([] : List ByteArray)) x14 x15 x16 (ctRow x14 x16) ((ctRow x14 x16).length : Int) 0) else (none)) else (none)) else ((strings_Join.f x4 (⟨#[32]⟩ : ByteArray)).bind fun t155 => (some (t155, true)))
def impl_CronText.l1 : Nat → List ByteArray → Int → List Int → List ByteArray → List (List Int) → Int → Int → List Int → Int → Int → Option (ByteArray × Bool)
  | 0, _, _, _, _, _, _, _, _, _, _ => none
  | k + 1, x4, x5, x6, x7, x14, x15, x16, x22, x23, x24 => if x24 < x23 then (if 0 ≤ x24 then (if x24 < (x22.length : Int) then ((strconv_Itoa.f (rd x22 x24)).bind fun t161 => (if x7.length < 8796093022208 then (impl_CronText.l1 k x4 x5 x6 (x7 ++ [t161]) x14 x15 x16 x22 x23 (wrap64 (x24 + 1))) else (none))) else (none)) else (none)) else ((impl_bounds.f).bind fun t165 => (if 0 ≤ x5 then (if x5 < (t165.length : Int) then (if (x6.length : Int) = (rd t165 x5) then ((strings_Join.f (([(⟨#[42]⟩ : ByteArray)] : List ByteArray)) (⟨#[44]⟩ : ByteArray)).bind fun t172 => (if x4.length < 8796093022208 then (impl_CronText.l0 k (x4 ++ [t172]) x14 x15 (wrap64 (x16 + 1))) else (none))) else ((strings_Join.f x7 (⟨#[44]⟩ : ByteArray)).bind fun t176 => (if x4.length < 8796093022208 then (impl_CronText.l0 k (x4 ++ [t176]) x14 x15 (wrap64 (x16 + 1))) else (none)))) else (none)) else (none)))
end
def impl_CronText.f (k : Nat) (l0_0 l0_1 l0_2 : List Int) : Option (ByteArray × Bool) := (impl_GoodCron.f k l0_0 l0_1 l0_2).bind fun g => if g = true then impl_CronText.l0 k [] [l0_0, l0_1, l0_2] 3 0 else some ((⟨#[]⟩ : ByteArray), false)
theorem impl_CronText.mono_l : ∀ k, (∀ y0 y1 y2 y3, LeO (impl_CronText.l0 k y0 y1 y2 y3) (impl_CronText.l0 (k + 1) y0 y1 y2 y3)) ∧ (∀ y0 y1 y2 y3 y4 y5 y6 y7 y8 y9, LeO (impl_CronText.l1 k y0 y1 y2 y3 y4 y5 y6 y7 y8 y9) (impl_CronText.l1 (k + 1) y0 y1 y2 y3 y4 y5 y6 y7 y8 y9))
  | 0 => ⟨fun _ _ _ _ r h => by simp [impl_CronText.l0] at h, fun _ _ _ _ _ _ _ _ _ _ r h => by simp [impl_CronText.l1] at h⟩
  | k + 1 => by
    obtain ⟨ih0, ih1⟩ := impl_CronText.mono_l k
    refine ⟨?_, ?_⟩
    · intro y0 y1 y2 y3
      unfold impl_CronText.l0
      repeat' first
      | (with_reducible exact ih0 _ _ _ _)
      | (with_reducible exact ih1 _ _ _ _ _ _ _ _ _ _)
      | (with_reducible exact LeO.refl _)
      | (with_reducible exact LeO.none _)
      | (with_reducible refine LeO.ite ?_ ?_)
      | (with_reducible refine LeO.bind ?_ (fun _ => ?_))
      | exact ih0 _ _ _ _
      | exact ih1 _ _ _ _ _ _ _ _ _ _
      | exact LeO.none _
      | refine LeO.ite ?_ ?_
      | refine LeO.bind ?_ (fun _ => ?_)
    · intro y0 y1 y2 y3 y4 y5 y6 y7 y8 y9
      unfold impl_CronText.l1
      repeat' first
      | (with_reducible exact ih0 _ _ _ _)
      | (with_reducible exact ih1 _ _ _ _ _ _ _ _ _ _)
      | (with_reducible exact LeO.refl _)
      | (with_reducible exact LeO.none _)
      | (with_reducible refine LeO.ite ?_ ?_)
      | (with_reducible refine LeO.bind ?_ (fun _ => ?_))
      | exact ih0 _ _ _ _
      | exact ih1 _ _ _ _ _ _ _ _ _ _
      | exact LeO.none _
      | refine LeO.ite ?_ ?_
      | refine LeO.bind ?_ (fun _ => ?_)
theorem impl_CronText.mono : ∀ a0 a1 a2 k, LeO (impl_CronText.f k a0 a1 a2) (impl_CronText.f (k + 1) a0 a1 a2) := by
  intro a0 a1 a2 k
  unfold impl_CronText.f
  exact LeO.bind (impl_GoodCron.mono _ _ _ _) (fun _ => LeO.ite ((impl_CronText.mono_l k).1 _ _ _ _) (LeO.refl _))
theorem fields_row (W : World) (g : Nat) (A0 A1 A2 : Option Addr) (n0 c0 n1 c1 n2 c2 : Nat) (l1 : List (List Int)) (hl : l1.length = 3) (h0 : W.cell? ⟨g, 0, none⟩ = some (.slice A0 n0 c0)) (h1 : W.cell? ⟨g, 1, none⟩ = some (.slice A1 n1 c1)) (h2 : W.cell? ⟨g, 2, none⟩ = some (.slice A2 n2 c2)) :
    Calls Tryd.prog 19 #[.pointer (some ⟨g, 0, none⟩)] W fun e w' => ∃ ad gb, ad = (⟨gb, 0, none⟩ : Addr) ∧ W.heap.size = gb ∧ e = .returned (.slice (some ad) l1.length 3) ∧ w'.heap[gb]? = some (.cells #[.slice A0 n0 c0, .slice A1 n1 c1, .slice A2 n2 c2] 22 (0, 0)) ∧ Below W.heap.size W w' := by
  refine (fields_calls W g A0 A1 A2 n0 c0 n1 c1 n2 c2 h0 h1 h2).mono ?_
  rintro e w' ⟨rfl, n, rfl⟩
  exact ⟨_, _, rfl, rfl, by rw [hl], heap_alloc_new _ _, pw_below_drewN (below_alloc (Below.refl _ _) _) _⟩
theorem fields_at {W w : World} {gb : Nat} {ad : Addr} {A0 A1 A2 : Option Addr} {c0 c1 c2 : Nat} {l0 l1 l2 : List Int} {rows : List (List Int)} (hrows : rows = [l0, l1, l2]) (had : ad = ⟨gb, 0, none⟩)
    (hbk : W.heap[gb]? = some (.cells #[.slice A0 l0.length c0, .slice A1 l1.length c1, .slice A2 l2.length c2] 22 (0, 0)))
    (h0 : Kd.C (Kd.int .i64) w A0 l0.length l0) (g0 : l0.length ≤ c0) (h1 : Kd.C (Kd.int .i64) w A1 l1.length l1) (g1 : l1.length ≤ c1) (h2 : Kd.C (Kd.int .i64) w A2 l2.length l2) (g2 : l2.length ≤ c2)
    (i : Int) (p : 0 ≤ i) (q : i < (rows.length : Int)) : ∃ A c, W.cell? (ad.add i.toNat) = some (.slice A (ctRow rows i).length c) ∧ (ctRow rows i).length ≤ c ∧ Kd.C (Kd.int .i64) w A (ctRow rows i).length (ctRow rows i) := by
  subst hrows had
  have hi : i = 0 ∨ i = 1 ∨ i = 2 := by simp only [List.length_cons, List.length_nil] at q; omega
  rcases hi with rfl | rfl | rfl
  · exact ⟨A0, c0, (blk_cell hbk 0).trans rfl, g0, h0⟩
  · exact ⟨A1, c1, (blk_cell hbk 1).trans rfl, g1, h1⟩
  · exact ⟨A2, c2, (blk_cell hbk 2).trans rfl, g2, h2⟩
set_option maxHeartbeats 8000000 in
set_option maxRecDepth 100000 in
theorem impl_CronText.calls (k : Nat) (A0_0 : Option Addr) (c0_0 : Nat) (l0_0 : List Int) (A0_1 : Option Addr) (c0_1 : Nat) (l0_1 : List Int) (A0_2 : Option Addr) (c0_2 : Nat) (l0_2 : List Int) (r1 : ByteArray) (r2 : Bool) (w : World) (hr0_0 : Kd.C (Kd.int .i64) w A0_0 l0_0.length l0_0) (hc0_0 : l0_0.length ≤ c0_0) (hr0_1 : Kd.C (Kd.int .i64) w A0_1 l0_1.length l0_1) (hc0_1 : l0_1.length ≤ c0_1) (hr0_2 : Kd.C (Kd.int .i64) w A0_2 l0_2.length l0_2) (hc0_2 : l0_2.length ≤ c0_2) (h : impl_CronText.f k l0_0 l0_1 l0_2 = some (r1, r2)) :
    Calls Tryd.prog 8 #[.agg #[.slice A0_0 l0_0.length c0_0, .slice A0_1 l0_1.length c0_1, .slice A0_2 l0_2.length c0_2]] w fun e w' => e = .returned (.tuple #[.string r1, .bool r2]) ∧ Below w.heap.size w w' := by
  have hu28 := Tryd.underlying28
  have HR0_0 := Aside0.mk hr0_0
  have HC0_0 := Aside0.mk hc0_0
  clear hr0_0 hc0_0
  have HR0_1 := Aside0.mk hr0_1
  have HC0_1 := Aside0.mk hc0_1
  clear hr0_1 hc0_1
  have HR0_2 := Aside0.mk hr0_2
  have HC0_2 := Aside0.mk hc0_2
  clear hr0_2 hc0_2
  have HB := Aside0.mk (Below.refl w.heap.size w)
  unfold impl_CronText.f at h
  obtain ⟨g, hG, h⟩ := Option.bind_eq_some_iff.1 h
  have HG := Aside0.mk hG
  clear hG
  cases g with
  | false =>
    replace h : some ((⟨#[]⟩ : ByteArray), false) = some (r1, r2) := h
    simp only [Option.some.injEq, Prod.mk.injEq] at h
    obtain ⟨rfl, rfl⟩ := h
    go_enter Tryd.func8, Tryd.ntmps8
    go_wp2_with (first | ((with_reducible refine gate_dst (N := 1) rfl ?_); refine box_event ?hg (N := 1) ?hd (cs := #[.slice A0_0 l0_0.length c0_0, .slice A0_1 l0_1.length c0_1, .slice A0_2 l0_2.length c0_2]) (t := 28) ?hr ?_; (case hd => rfl); (case hg => rfl); (case hr => first | (go_simp; done) | (go_simp; rfl)); intro gb0 hg w1 hbox hb; have nH := Aside0.mk (below_step (by repeat (first | (with_reducible first | exact HB.out | apply below_alloc | apply pw_below_drewN | apply below_drew1) | exact HB.out)) hb); have BK0 := Aside0.mk hbox; clear HB; have HB := nH; clear nH hg hbox hb; have zc0 : w1.cell? ⟨gb0, 0, none⟩ = some (.slice A0_0 l0_0.length c0_0) := (blk_cell BK0.out 0).trans rfl; have zc1 : w1.cell? ⟨gb0, 1, none⟩ = some (.slice A0_1 l0_1.length c0_1) := (blk_cell BK0.out 1).trans rfl; have zc2 : w1.cell? ⟨gb0, 2, none⟩ = some (.slice A0_2 l0_2.length c0_2) := (blk_cell BK0.out 2).trans rfl) | (go_at_call 18; refine (impl_GoodCron.calls k A0_0 c0_0 l0_0 A0_1 c0_1 l0_1 A0_2 c0_2 l0_2 false _ (Kd.C_below HR0_0.out HB.out) HC0_0.out (Kd.C_below HR0_1.out HB.out) HC0_1.out (Kd.C_below HR0_2.out HB.out) HC0_2.out HG.out).mono ?_; rintro e w2 ⟨rfl, hb⟩; have nH := Aside0.mk (below_then HB.out HB.out.size hb); have nK := Aside0.mk (blk_below BK0.out hb); clear HB BK0 hb zc0 zc1 zc2; have HB := nH; have BK0 := nK; clear nH nK))
    go_ret2
    exact ⟨rfl, HB.out⟩
  | true =>
    replace h : impl_CronText.l0 k [] [l0_0, l0_1, l0_2] 3 0 = some (r1, r2) := h
    obtain ⟨l1, hl1⟩ : ∃ l1, l1 = [l0_0, l0_1, l0_2] := ⟨_, rfl⟩
    have hln : l1.length = 3 := by rw [hl1]; rfl
    have H : impl_CronText.l0 k [] l1 (l1.length : Int) 0 = some (r1, r2) := by rw [hln, hl1]; exact h
    have HL1 := Aside0.mk hl1
    have HLN := Aside0.mk hln
    clear h hl1 hln
    obtain ⟨y152, hy152⟩ : ∃ y_ : List ByteArray, y_ = (([] : List ByteArray)) := ⟨_, rfl⟩
    rw [← hy152] at H
    have Ny152 := Aside0.mk hy152
    clear hy152
    have H' := Aside0.mk H
    clear H
    go_enter Tryd.func8, Tryd.ntmps8
    go_wp2_with (first | ((with_reducible refine gate_dst (N := 1) rfl ?_); refine box_event ?hg (N := 1) ?hd (cs := #[.slice A0_0 l0_0.length c0_0, .slice A0_1 l0_1.length c0_1, .slice A0_2 l0_2.length c0_2]) (t := 28) ?hr ?_; (case hd => rfl); (case hg => rfl); (case hr => first | (go_simp; done) | (go_simp; rfl)); intro gb0 hg w1 hbox hb; have nH := Aside0.mk (below_step (by repeat (first | (with_reducible first | exact HB.out | apply below_alloc | apply pw_below_drewN | apply below_drew1) | exact HB.out)) hb); have BK0 := Aside0.mk hbox; clear HB; have HB := nH; clear nH hg hbox hb; have zc0 : w1.cell? ⟨gb0, 0, none⟩ = some (.slice A0_0 l0_0.length c0_0) := (blk_cell BK0.out 0).trans rfl; have zc1 : w1.cell? ⟨gb0, 1, none⟩ = some (.slice A0_1 l0_1.length c0_1) := (blk_cell BK0.out 1).trans rfl; have zc2 : w1.cell? ⟨gb0, 2, none⟩ = some (.slice A0_2 l0_2.length c0_2) := (blk_cell BK0.out 2).trans rfl) | (go_at_call 18; refine (impl_GoodCron.calls k A0_0 c0_0 l0_0 A0_1 c0_1 l0_1 A0_2 c0_2 l0_2 true _ (Kd.C_below HR0_0.out HB.out) HC0_0.out (Kd.C_below HR0_1.out HB.out) HC0_1.out (Kd.C_below HR0_2.out HB.out) HC0_2.out HG.out).mono ?_; rintro e w2 ⟨rfl, hb⟩; have nH := Aside0.mk (below_then HB.out HB.out.size hb); have nK := Aside0.mk (blk_below BK0.out hb); clear HB BK0 hb zc0 zc1 zc2; have HB := nH; have BK0 := nK; clear nH nK) | ((with_reducible refine gate_dst (N := 13) rfl ?_); refine Kd.R_lit Kd.string _ 9 ?hg (N := 13) ?hd (xs := ([] : List ByteArray)) (inner := []) (ok := fun _ => True) (okp := fun _ => True) ?hr ?hp (fun _ hk => hk) trivial (Below.refl _ _) (Nat.le_refl _) (by simp) ?_; (case hd => rfl); (case hg => rfl); (case hr => first | (go_simp; done) | (go_simp; rfl)); (case hp => exact (Reps.none _ _)); intro v153 w4 ho5 hb hg_ hnew_; clear hg_ hnew_; (first | rw [← Ny152.out] at ho5 | (simp only [Int.reduceToNat] at ho5; rw [← Ny152.out] at ho5)); have n0_ := Aside0.mk (Kd.R_lower ho5 (below_size (by repeat (first | (with_reducible first | exact HB.out | apply below_alloc | apply pw_below_drewN | apply below_drew1) | exact HB.out)))); have n2_ := Aside0.mk (below_step (by repeat (first | (with_reducible first | exact HB.out | apply below_alloc | apply pw_below_drewN | apply below_drew1) | exact HB.out)) hb); have nK := Aside0.mk (blk_below BK0.out hb); clear HB BK0; have HO154 := n0_; have HB := n2_; have BK0 := nK; clear n0_ n2_ nK hb ho5) | (go_at_call 19; refine (fields_row w4 gb0 A0_0 A0_1 A0_2 l0_0.length c0_0 l0_1.length c0_1 l0_2.length c0_2 l1 HLN.out ((blk_cell BK0.out 0).trans rfl) ((blk_cell BK0.out 1).trans rfl) ((blk_cell BK0.out 2).trans rfl)).mono ?_; rintro e w5 ⟨ad, gb151, had, hgb, rfl, hbk, hb⟩; have HAD := Aside0.mk had; have BK151 := Aside0.mk hbk; have GE151 : Aside0 (w.heap.size ≤ gb151) := ⟨hgb ▸ HB.out.size⟩; have nO := Aside0.mk (Kd.R_below HO154.out hb); have nH := Aside0.mk (below_then HB.out HB.out.size hb); clear HO154 HB BK0 had hgb hbk hb; have HO154 := nO; have HB := nH; clear nO nH))
    go_loopg [4, 16] k (fun kq v4 v16 w' => ∃ (x4_1 : List ByteArray) (x16_1 : Int), v16 = .int .i64 x16_1 ∧ Aside0 (impl_CronText.l0 kq x4_1 l1 (l1.length : Int) x16_1 = some (r1, r2)) ∧ Aside0 (kq ≤ k) ∧ Aside0 (Kd.R Kd.string 9 w' w.heap.size (fun _ => True) v4 x4_1) ∧ Aside0 (w'.heap[gb151]? = some (.cells #[(.slice A0_0 l0_0.length c0_0), (.slice A0_1 l0_1.length c0_1), (.slice A0_2 l0_2.length c0_2)] 22 (0, 0))) ∧ Aside0 (Below w.heap.size w w'))
    case atStart => exact ⟨(y152), (0), (by first | rfl | (simp; done) | (simp [*]; done) | (simp; exact (fun l : List UInt8 => (by cases l <;> rfl : l.isEmpty = !(l != []))) _)), H', ⟨Nat.le_refl _⟩, ⟨by (with_reducible repeat (first | apply Kd.R_alloc | apply Kd.R_drewN | apply Kd.R_drew)); exact HO154.out⟩, ⟨by (with_reducible repeat (first | refine blk_drewN ?_ _ | refine blk_drew ?_ | refine blk_alloc ?_ _)); exact BK151.out⟩, ⟨by repeat (first | (with_reducible first | exact HB.out | apply below_alloc | apply pw_below_drewN | apply below_drew1 | refine below_set ?_ GE151.out) | exact HB.out)⟩⟩
    case round =>
      clear H'
      try clear p2
      obtain ⟨x4_1, x16_1, rfl, HA, HK1, HO_4, BK151, HB⟩ := hrel
      cases gk with
      | zero => exact absurd HA.out (by simp [impl_CronText.l0])
      | succ k1 =>
        have H := HA.out
        clear HA
        simp only [impl_CronText.l0] at H
        by_cases c6 : x16_1 < (l1.length : Int)
        · rw [if_pos c6] at H
          have c6b0 : decide (x16_1 < (l1.length : Int)) = true := decide_eq_true c6
          clear c6
          by_cases c7 : 0 ≤ x16_1
          · rw [if_pos c7] at H
            have c7b0 : decide (0 ≤ x16_1) = true := decide_eq_true c7
            clear c7
            by_cases c8 : x16_1 < (l1.length : Int)
            · rw [if_pos c8] at H
              have c8b0 : decide (x16_1 < (l1.length : Int)) = true := decide_eq_true c8
              clear c8
              obtain ⟨y157, hy157⟩ : ∃ y_ : List ByteArray, y_ = (([] : List ByteArray)) := ⟨_, rfl⟩
              replace H : (impl_CronText.l1 k1 x4_1 x16_1 (ctRow l1 x16_1) y157 l1 (l1.length : Int) x16_1 (ctRow l1 x16_1) ((ctRow l1 x16_1).length : Int) 0) = some (r1, r2) := by first | (rw [hy157]; with_reducible exact H) | (have H2_ := (Option.bind_some _ _).symm.trans H; rw [hy157]; with_reducible exact H2_) | (have H2_ := (Option.bind_some _ _).symm.trans H; with_reducible exact H2_) | with_reducible exact H | (rw [hy157]; exact H) | exact H
              have Ny157 := Aside0.mk hy157
              clear hy157
              have H' := Aside0.mk H
              clear H
              have hcz9_0 : wr.cell? ⟨gb151, 0, none⟩ = some (.slice A0_0 l0_0.length c0_0) := (blk_cell BK151.out 0).trans rfl
              have hcz9_1 : wr.cell? ⟨gb151, 1, none⟩ = some (.slice A0_1 l0_1.length c0_1) := (blk_cell BK151.out 1).trans rfl
              have hcz9_2 : wr.cell? ⟨gb151, 2, none⟩ = some (.slice A0_2 l0_2.length c0_2) := (blk_cell BK151.out 2).trans rfl
              have hfz9_0 := blk_frozen BK151.out 0
              have hfz9_1 := blk_frozen BK151.out 1
              have hfz9_2 := blk_frozen BK151.out 2
              have p156 : 0 ≤ (x16_1 : Int) := of_decide_eq_true (by first | (with_reducible assumption) | assumption)
              have q156 : x16_1 < (l1.length : Int) := of_decide_eq_true (by first | (with_reducible assumption) | assumption)
              obtain ⟨A156_0, c156_0, hx156_0, hl156_0, hi156_0⟩ := fields_at HL1.out HAD.out BK151.out HR0_0.out HC0_0.out HR0_1.out HC0_1.out HR0_2.out HC0_2.out x16_1 p156 q156
              have HR156_0 := Aside0.mk hi156_0
              have HC156_0 := Aside0.mk hl156_0
              clear hi156_0 hl156_0
              replace p156 := eq_true p156
              replace q156 := eq_true q156
              go_wp2_with (first | ((with_reducible refine gate_dst (N := 21) rfl ?_); refine Kd.R_lit Kd.string _ 9 ?hg (N := 21) ?hd (xs := ([] : List ByteArray)) (inner := []) (ok := fun _ => True) (okp := fun _ => True) ?hr ?hp (fun _ hk => hk) trivial (Below.refl _ _) (Nat.le_refl _) (by simp) ?_; (case hd => rfl); (case hg => rfl); (case hr => first | (go_simp; done) | (go_simp; rfl)); (case hp => exact (Reps.none _ _)); intro v158 w10 ho11 hb hg_ hnew_; clear hg_ hnew_; (first | rw [← Ny157.out] at ho11 | (simp only [Int.reduceToNat] at ho11; rw [← Ny157.out] at ho11)); have n0_ := Aside0.mk (Kd.R_elder' (by (with_reducible repeat (first | apply Kd.R_alloc | apply Kd.R_drewN | apply Kd.R_drew)); exact HO_4.out) (Kd.R_base ho11) hb); have n1_ := Aside0.mk (Kd.R_lower (Kd.R_new' ho11 (Kd.R_lt (by (with_reducible repeat (first | apply Kd.R_alloc | apply Kd.R_drewN | apply Kd.R_drew)); exact HO_4.out))) (below_size (by repeat (first | (with_reducible first | exact HB.out | apply below_alloc | apply pw_below_drewN | apply below_drew1 | refine below_set ?_ GE151.out) | exact HB.out)))); have n2_ := Aside0.mk (blk_below (g := gb151) (o := .cells #[.slice A0_0 l0_0.length c0_0, .slice A0_1 l0_1.length c0_1, .slice A0_2 l0_2.length c0_2] 22 (0, 0)) (by (with_reducible repeat (first | refine blk_drewN ?_ _ | refine blk_drew ?_ | refine blk_alloc ?_ _)); exact BK151.out) hb); have n3_ := Aside0.mk (below_step (by repeat (first | (with_reducible first | exact HB.out | apply below_alloc | apply pw_below_drewN | apply below_drew1 | refine below_set ?_ GE151.out) | exact HB.out)) hb); clear HO_4; clear BK151; clear HB; have HO_4 := n0_; have HO159 := n1_; have BK151 := n2_; have HB := n3_; clear n0_ n1_ n2_ n3_; clear hb ho11))
              go_loopg [7, 24] k1 (fun kq v7 v24 w' => ∃ (x7_2 : List ByteArray) (x24_2 : Int), v24 = .int .i64 x24_2 ∧ Aside0 (impl_CronText.l1 kq x4_1 x16_1 (ctRow l1 x16_1) x7_2 l1 (l1.length : Int) x16_1 (ctRow l1 x16_1) ((ctRow l1 x16_1).length : Int) x24_2 = some (r1, r2)) ∧ Aside0 (kq ≤ k1) ∧ Aside0 (Kd.R Kd.string 9 w' w.heap.size (fun k_ => some k_ ≠ (v7 : Value).ownBlock) u4 x4_1) ∧ Aside0 (Kd.R Kd.string 9 w' w.heap.size (fun k_ => some k_ ≠ (u4 : Value).ownBlock) v7 x7_2) ∧ Aside0 (w'.heap[gb151]? = some (.cells #[(.slice A0_0 l0_0.length c0_0), (.slice A0_1 l0_1.length c0_1), (.slice A0_2 l0_2.length c0_2)] 22 (0, 0))) ∧ Aside0 (Below w.heap.size w w'))
              case atStart => exact ⟨(y157), (0), (by first | rfl | (simp; done) | (simp [*]; done) | (simp; exact (fun l : List UInt8 => (by cases l <;> rfl : l.isEmpty = !(l != []))) _)), H', ⟨Nat.le_refl _⟩, ⟨by (with_reducible repeat (first | apply Kd.R_alloc | apply Kd.R_drewN | apply Kd.R_drew)); exact Kd.R_mono HO_4.out (fun _ hk => hk.2)⟩, ⟨by (with_reducible repeat (first | apply Kd.R_alloc | apply Kd.R_drewN | apply Kd.R_drew)); exact Kd.R_mono HO159.out (fun _ hk => hk.2)⟩, ⟨by (with_reducible repeat (first | refine blk_drewN ?_ _ | refine blk_drew ?_ | refine blk_alloc ?_ _)); exact BK151.out⟩, ⟨by repeat (first | (with_reducible first | exact HB.out | apply below_alloc | apply pw_below_drewN | apply below_drew1 | refine below_set ?_ GE151.out) | exact HB.out)⟩⟩
              case round =>
                clear H'
                try clear p1
                try clear q1
                try clear hx1
                try clear p2
                try clear c6
                try clear c6b0
                try clear c7
                try clear c7b0
                try clear c8
                try clear c8b0
                try clear hcz9_0
                try clear hcz9_1
                try clear hcz9_2
                try clear hfz9_0
                try clear hfz9_1
                try clear hfz9_2
                try clear hx156_0
                try clear p156
                try clear p2
                try clear q156
                obtain ⟨x7_2, x24_2, rfl, HA, HK2, HO_4, HO_7, BK151, HB⟩ := hrel
                cases gk with
                | zero => exact absurd HA.out (by simp [impl_CronText.l1])
                | succ k2 =>
                  have H := HA.out
                  clear HA
                  simp only [impl_CronText.l1] at H
                  by_cases c12 : x24_2 < ((ctRow l1 x16_1).length : Int)
                  · rw [if_pos c12] at H
                    have c12b0 : decide (x24_2 < ((ctRow l1 x16_1).length : Int)) = true := decide_eq_true c12
                    clear c12
                    by_cases c13 : 0 ≤ x24_2
                    · rw [if_pos c13] at H
                      have c13b0 : decide (0 ≤ x24_2) = true := decide_eq_true c13
                      clear c13
                      by_cases c14 : x24_2 < ((ctRow l1 x16_1).length : Int)
                      · rw [if_pos c14] at H
                        have c14b0 : decide (x24_2 < ((ctRow l1 x16_1).length : Int)) = true := decide_eq_true c14
                        clear c14
                        replace H := Option.bind_eq_some_iff.mp H
                        obtain ⟨t161, A150, H⟩ := H
                        replace H : (if x7_2.length < 8796093022208 then (impl_CronText.l1 k2 x4_1 x16_1 (ctRow l1 x16_1) (x7_2 ++ [t161]) l1 (l1.length : Int) x16_1 (ctRow l1 x16_1) ((ctRow l1 x16_1).length : Int) (wrap64 (x24_2 + 1))) else (none)) = some (r1, r2) := H
                        have A15 := Aside0.mk A150
                        clear A150
                        by_cases c16 : x7_2.length < 8796093022208
                        · rw [if_pos c16] at H
                          have LMc16 := Aside0.mk c16
                          clear c16
                          obtain ⟨y162, hy162⟩ : ∃ y_ : List ByteArray, y_ = (x7_2 ++ [t161]) := ⟨_, rfl⟩
                          replace H : (impl_CronText.l1 k2 x4_1 x16_1 (ctRow l1 x16_1) y162 l1 (l1.length : Int) x16_1 (ctRow l1 x16_1) ((ctRow l1 x16_1).length : Int) (wrap64 (x24_2 + 1))) = some (r1, r2) := by first | (rw [hy162]; with_reducible exact H) | (have H2_ := (Option.bind_some _ _).symm.trans H; rw [hy162]; with_reducible exact H2_) | (have H2_ := (Option.bind_some _ _).symm.trans H; with_reducible exact H2_) | with_reducible exact H | (rw [hy162]; exact H) | exact H
                          have Ny162 := Aside0.mk hy162
                          clear hy162
                          have H' := Aside0.mk H
                          clear H
                          have p160 : 0 ≤ (x24_2 : Int) := of_decide_eq_true (by first | (with_reducible assumption) | assumption)
                          have q160 : x24_2 < ((ctRow l1 x16_1).length : Int) := of_decide_eq_true (by first | (with_reducible assumption) | assumption)
                          obtain ⟨ad160, e160, hx160_0⟩ := Kd.at_int HR156_0.out x24_2 p160 q160
                          cases e160
                          try replace hx160_0 := (HB.out.cell (World.block_lt_of_cell? w _ hx160_0)).trans hx160_0
                          replace p160 := eq_true p160
                          replace q160 := eq_true q160
                          go_wp2_with (first | ((with_reducible refine gate_callee (f := 20) rfl ?_); refine goesL_ (some 30) rfl rfl Tryd.func20 (by kernel_rfl) rfl #[.int .i64 (rd (ctRow l1 x16_1) x24_2)] rfl (by (try simp only [List.map_toArray, List.map_cons, List.map_nil]); first | done | rfl | (simp only [List.length_drop, List.length_take]; rfl)) ?_; (with_reducible refine (strconv_Itoa.calls (rd (ctRow l1 x16_1) x24_2) t161 _ A15.out).mono ?_); rintro e w' ⟨rfl, ⟨nd, rfl⟩⟩; refine ⟨_, rfl, ?_⟩) | ((with_reducible refine gate_builtin (b := .append) (xs := #[.tmp 28, .tmp 31]) rfl ?_); at_builtin; refine Kd.R_append Kd.string (w0 := w) w.heap.size rfl (.tmp 28) (.tmp 31) 40 9 (.string ⟨#[]⟩) 16 rfl Tryd.underlying40 info9 rfl (by decide) (by omega) u7 x7_2 t161 [.string t161] (fun k_ => some k_ ≠ (u4 : Value).ownBlock) (fun _ => False) rfl rfl ?aP (fun _ hk => hk.elim) ?aF ?aO ?aB ?aS ?aL ?_; (case aP => exact rfl); (case aB => exact (by repeat (first | (with_reducible first | exact HB.out | apply below_alloc | apply pw_below_drewN | apply below_drew1 | refine below_set ?_ GE151.out) | exact HB.out))); (case aF => exact (fun k_ hk => Kd.fresh' (Kd.R_lt (by (with_reducible repeat (first | apply Kd.R_alloc | apply Kd.R_drewN | apply Kd.R_drew)); exact HO_4.out)) k_ hk)); (case aO => exact (by (with_reducible repeat (first | apply Kd.R_alloc | apply Kd.R_drewN | apply Kd.R_drew)); exact HO_7.out)); (case aS => exact (below_size (by repeat (first | (with_reducible first | exact HB.out | apply below_alloc | apply pw_below_drewN | apply below_drew1 | refine below_set ?_ GE151.out) | exact HB.out)))); (case aL => have := LMc16.out; omega); intro v163 w17 ho hb hg hat; rw [← Ny162.out] at ho; have n0_ := Aside0.mk (Kd.R_after (ok := (fun _ => True)) (by (with_reducible repeat (first | apply Kd.R_alloc | apply Kd.R_drewN | apply Kd.R_drew)); exact Kd.R_mono HO_4.out (fun _ hk => ⟨trivial, hk⟩)) hg hat); have n1_ := Aside0.mk (blk_grown (g := gb151) (o := .cells #[.slice A0_0 l0_0.length c0_0, .slice A0_1 l0_1.length c0_1, .slice A0_2 l0_2.length c0_2] 22 (0, 0)) (by (with_reducible repeat (first | refine blk_drewN ?_ _ | refine blk_drew ?_ | refine blk_alloc ?_ _)); exact BK151.out) hg (Kd.R_ne HO_7.out BK151.out (by decide))); have n2_ := Aside0.mk (hb); have n3_ := Aside0.mk (ho); clear HO_4; clear BK151; clear HB; clear HO_7; have HO_4 := n0_; have BK151 := n1_; have HB := n2_; have HO164 := n3_; clear n0_ n1_ n2_ n3_; clear ho hb hg hat))
                          go_roundg k2
                          case measure => have := HK1.out; have := HK2.out; omega
                          case rel => exact ⟨(y162), (wrap64 (x24_2 + 1)), (by first | rfl | (simp; done) | (simp [*]; done) | (simp; exact (fun l : List UInt8 => (by cases l <;> rfl : l.isEmpty = !(l != []))) _)), H', ⟨by have := HK1.out; have := HK2.out; omega⟩, ⟨by (with_reducible repeat (first | apply Kd.R_alloc | apply Kd.R_drewN | apply Kd.R_drew)); exact Kd.R_mono HO_4.out (fun _ hk => hk.2)⟩, ⟨by (with_reducible repeat (first | apply Kd.R_alloc | apply Kd.R_drewN | apply Kd.R_drew)); exact HO164.out⟩, ⟨by (with_reducible repeat (first | refine blk_drewN ?_ _ | refine blk_drew ?_ | refine blk_alloc ?_ _)); exact BK151.out⟩, ⟨by repeat (first | (with_reducible first | exact HB.out | apply below_alloc | apply pw_below_drewN | apply below_drew1 | refine below_set ?_ GE151.out) | exact HB.out)⟩⟩
                        · rw [if_neg c16] at H
                          exact absurd H (by simp)
                      · rw [if_neg c14] at H
                        exact absurd H (by simp)
                    · rw [if_neg c13] at H
                      exact absurd H (by simp)
                  · rw [if_neg c12] at H
                    have c12b0 : decide (x24_2 < ((ctRow l1 x16_1).length : Int)) = false := decide_eq_false c12
                    clear c12
                    replace H := Option.bind_eq_some_iff.mp H
                    obtain ⟨t165, A180, H⟩ := H
                    replace H : (if 0 ≤ x16_1 then (if x16_1 < (t165.length : Int) then (if ((ctRow l1 x16_1).length : Int) = (rd t165 x16_1) then ((strings_Join.f (([(⟨#[42]⟩ : ByteArray)] : List ByteArray)) (⟨#[44]⟩ : ByteArray)).bind fun t172 => (if x4_1.length < 8796093022208 then (impl_CronText.l0 k2 (x4_1 ++ [t172]) l1 (l1.length : Int) (wrap64 (x16_1 + 1))) else (none))) else ((strings_Join.f x7_2 (⟨#[44]⟩ : ByteArray)).bind fun t176 => (if x4_1.length < 8796093022208 then (impl_CronText.l0 k2 (x4_1 ++ [t176]) l1 (l1.length : Int) (wrap64 (x16_1 + 1))) else (none)))) else (none)) else (none)) = some (r1, r2) := H
                    have A18 := Aside0.mk A180
                    clear A180
                    by_cases c19 : 0 ≤ x16_1
                    · rw [if_pos c19] at H
                      have c19b0 : decide (0 ≤ x16_1) = true := decide_eq_true c19
                      clear c19
                      by_cases c20 : x16_1 < (t165.length : Int)
                      · rw [if_pos c20] at H
                        have c20b0 : decide (x16_1 < (t165.length : Int)) = true := decide_eq_true c20
                        clear c20
                        by_cases c21 : ((ctRow l1 x16_1).length : Int) = (rd t165 x16_1)
                        · rw [if_pos c21] at H
                          have c21b0 : (((ctRow l1 x16_1).length : Int) == (rd t165 x16_1)) = true := beq_iff_eq.mpr c21
                          have c21b1 : (((ctRow l1 x16_1).length : Int) != (rd t165 x16_1)) = false := bne_eq_false_iff_eq.mpr c21
                          clear c21
                          obtain ⟨y169, hy169⟩ : ∃ y_ : List ByteArray, y_ = (([(⟨#[42]⟩ : ByteArray)] : List ByteArray)) := ⟨_, rfl⟩
                          replace H : ((strings_Join.f y169 (⟨#[44]⟩ : ByteArray)).bind fun t172 => (if x4_1.length < 8796093022208 then (impl_CronText.l0 k2 (x4_1 ++ [t172]) l1 (l1.length : Int) (wrap64 (x16_1 + 1))) else (none))) = some (r1, r2) := by first | (rw [hy169]; with_reducible exact H) | (have H2_ := (Option.bind_some _ _).symm.trans H; rw [hy169]; with_reducible exact H2_) | (have H2_ := (Option.bind_some _ _).symm.trans H; with_reducible exact H2_) | with_reducible exact H | (rw [hy169]; exact H) | exact H
                          have Ny169 := Aside0.mk hy169
                          clear hy169
                          replace H := Option.bind_eq_some_iff.mp H
                          obtain ⟨t172, A220, H⟩ := H
                          replace H : (if x4_1.length < 8796093022208 then (impl_CronText.l0 k2 (x4_1 ++ [t172]) l1 (l1.length : Int) (wrap64 (x16_1 + 1))) else (none)) = some (r1, r2) := H
                          have A22 := Aside0.mk A220
                          clear A220
                          by_cases c23 : x4_1.length < 8796093022208
                          · rw [if_pos c23] at H
                            have LMc23 := Aside0.mk c23
                            clear c23
                            obtain ⟨y173, hy173⟩ : ∃ y_ : List ByteArray, y_ = (x4_1 ++ [t172]) := ⟨_, rfl⟩
                            replace H : (impl_CronText.l0 k2 y173 l1 (l1.length : Int) (wrap64 (x16_1 + 1))) = some (r1, r2) := by first | (rw [hy173]; with_reducible exact H) | (have H2_ := (Option.bind_some _ _).symm.trans H; rw [hy173]; with_reducible exact H2_) | (have H2_ := (Option.bind_some _ _).symm.trans H; with_reducible exact H2_) | with_reducible exact H | (rw [hy173]; exact H) | exact H
                            have Ny173 := Aside0.mk hy173
                            clear hy173
                            have H' := Aside0.mk H
                            clear H
                            go_wp2_with (first | ((with_reducible refine gate_callee (f := 21) rfl ?_); refine goesL_ (some 36) rfl rfl Tryd.func21 (by kernel_rfl) rfl #[] rfl (by (try simp only [List.map_toArray, List.map_cons, List.map_nil]); first | done | rfl | (simp only [List.length_drop, List.length_take]; rfl)) ?_; (with_reducible refine (impl_bounds.calls  t165 _ A18.out).mono ?_); rintro e w24 ⟨v166, rfl, ho0, hb⟩; refine ⟨_, rfl, ?_⟩; have n0_ := Aside0.mk (Kd.R_below (by (with_reducible repeat (first | apply Kd.R_alloc | apply Kd.R_drewN | apply Kd.R_drew)); exact HO_4.out) hb); have n1_ := Aside0.mk (Kd.R_below (by (with_reducible repeat (first | apply Kd.R_alloc | apply Kd.R_drewN | apply Kd.R_drew)); exact HO_7.out) hb); have n2_ := Aside0.mk (Kd.R_lower ho0 (below_size (by repeat (first | (with_reducible first | exact HB.out | apply below_alloc | apply pw_below_drewN | apply below_drew1 | refine below_set ?_ GE151.out) | exact HB.out)))); have n3_ := Aside0.mk (blk_below (g := gb151) (o := .cells #[.slice A0_0 l0_0.length c0_0, .slice A0_1 l0_1.length c0_1, .slice A0_2 l0_2.length c0_2] 22 (0, 0)) (by (with_reducible repeat (first | refine blk_drewN ?_ _ | refine blk_drew ?_ | refine blk_alloc ?_ _)); exact BK151.out) hb); have n4_ := Aside0.mk (below_step (by repeat (first | (with_reducible first | exact HB.out | apply below_alloc | apply pw_below_drewN | apply below_drew1 | refine below_set ?_ GE151.out) | exact HB.out)) hb); clear HO_4; clear HO_7; clear BK151; clear HB; have HO_4 := n0_; have HO_7 := n1_; have HO167 := n2_; have BK151 := n3_; have HB := n4_; clear n0_ n1_ n2_ n3_ n4_; (try clear hb); (try clear hb2); (try clear hk); (try clear hi); (try clear ho0); obtain ⟨Ao25, co25, eo25⟩ := Kd.R_slice HO167.out; subst eo25; have p168 : 0 ≤ (x16_1 : Int) := of_decide_eq_true (by first | (with_reducible assumption) | assumption); have q168 : x16_1 < (t165.length : Int) := of_decide_eq_true (by first | (with_reducible assumption) | assumption); obtain ⟨ad168, e168, hx168_0⟩ := Kd.at_int (Kd.R_reads' HO167.out).2.2 x16_1 p168 q168; cases e168; replace p168 := eq_true p168; replace q168 := eq_true q168) | ((with_reducible refine gate_dst (N := 41) rfl ?_); refine Kd.R_lit Kd.string _ 9 ?hg (N := 41) ?hd (xs := ([(⟨#[42]⟩ : ByteArray)] : List ByteArray)) (inner := [.string (⟨#[42]⟩ : ByteArray)]) (ok := fun _ => True) (okp := fun _ => True) ?hr ?hp (fun _ hk => hk) trivial (Below.refl _ _) (Nat.le_refl _) (by simp) ?_; (case hd => rfl); (case hg => rfl); (case hr => first | (go_simp; done) | (go_simp; rfl)); (case hp => exact (Reps.one (show Kd.M Kd.string _ _ _ (⟨#[42]⟩ : ByteArray) [.string (⟨#[42]⟩ : ByteArray)] from rfl) (Reps.none _ _))); intro v170 w26 ho27 hb hg_ hnew_; clear hg_ hnew_; (first | rw [← Ny169.out] at ho27 | (simp only [Int.reduceToNat] at ho27; rw [← Ny169.out] at ho27)); have n0_ := Aside0.mk (Kd.R_elder' (by (with_reducible repeat (first | apply Kd.R_alloc | apply Kd.R_drewN | apply Kd.R_drew)); exact HO_4.out) (Kd.R_base ho27) hb); have n1_ := Aside0.mk (Kd.R_elder' (by (with_reducible repeat (first | apply Kd.R_alloc | apply Kd.R_drewN | apply Kd.R_drew)); exact HO_7.out) (Kd.R_base ho27) hb); have n2_ := Aside0.mk (Kd.R_below (by (with_reducible repeat (first | apply Kd.R_alloc | apply Kd.R_drewN | apply Kd.R_drew)); exact HO167.out) hb); have n3_ := Aside0.mk (Kd.R_lower (Kd.R_new' (Kd.R_new' ho27 (Kd.R_lt (by (with_reducible repeat (first | apply Kd.R_alloc | apply Kd.R_drewN | apply Kd.R_drew)); exact HO_4.out))) (Kd.R_lt (by (with_reducible repeat (first | apply Kd.R_alloc | apply Kd.R_drewN | apply Kd.R_drew)); exact HO_7.out))) (below_size (by repeat (first | (with_reducible first | exact HB.out | apply below_alloc | apply pw_below_drewN | apply below_drew1 | refine below_set ?_ GE151.out) | exact HB.out)))); have n4_ := Aside0.mk (blk_below (g := gb151) (o := .cells #[.slice A0_0 l0_0.length c0_0, .slice A0_1 l0_1.length c0_1, .slice A0_2 l0_2.length c0_2] 22 (0, 0)) (by (with_reducible repeat (first | refine blk_drewN ?_ _ | refine blk_drew ?_ | refine blk_alloc ?_ _)); exact BK151.out) hb); have n5_ := Aside0.mk (below_step (by repeat (first | (with_reducible first | exact HB.out | apply below_alloc | apply pw_below_drewN | apply below_drew1 | refine below_set ?_ GE151.out) | exact HB.out)) hb); clear HO_4; clear HO_7; clear HO167; clear BK151; clear HB; have HO_4 := n0_; have HO_7 := n1_; have HO167 := n2_; have HO171 := n3_; have BK151 := n4_; have HB := n5_; clear n0_ n1_ n2_ n3_ n4_ n5_; clear hb ho27; obtain ⟨Ao28, co28, eo28⟩ := Kd.R_slice HO171.out; subst eo28) | ((with_reducible refine gate_callee (f := 22) rfl ?_); refine goesL_ (some 44) rfl rfl Tryd.func22 (by kernel_rfl) rfl #[.slice Ao28 y169.length co28, .string (⟨#[44]⟩ : ByteArray)] rfl (by (try simp only [List.map_toArray, List.map_cons, List.map_nil]); first | done | rfl | (simp only [List.length_drop, List.length_take]; rfl)) ?_; (with_reducible refine (strings_Join.calls _ _ y169 (⟨#[44]⟩ : ByteArray) t172 _ ?side1 ?side2 A22.out).mono ?_); (case side1 => repeat (first | exact (Kd.R_reads' HO171.out).2.2 | (with_reducible refine Kd.C_alloc ?_ _) | (with_reducible refine Kd.C_drewN ?_ _) | (with_reducible refine Kd.C_drew ?_))); (case side2 => exact (Kd.R_reads' HO171.out).2.1); rintro e w29 ⟨rfl, hb⟩; refine ⟨_, rfl, ?_⟩; have n0_ := Aside0.mk (Kd.R_below (by (with_reducible repeat (first | apply Kd.R_alloc | apply Kd.R_drewN | apply Kd.R_drew)); exact HO_4.out) hb); have n1_ := Aside0.mk (Kd.R_below (by (with_reducible repeat (first | apply Kd.R_alloc | apply Kd.R_drewN | apply Kd.R_drew)); exact HO_7.out) hb); have n2_ := Aside0.mk (Kd.R_below (by (with_reducible repeat (first | apply Kd.R_alloc | apply Kd.R_drewN | apply Kd.R_drew)); exact HO167.out) hb); have n3_ := Aside0.mk (Kd.R_below (by (with_reducible repeat (first | apply Kd.R_alloc | apply Kd.R_drewN | apply Kd.R_drew)); exact HO171.out) hb); have n4_ := Aside0.mk (blk_below (g := gb151) (o := .cells #[.slice A0_0 l0_0.length c0_0, .slice A0_1 l0_1.length c0_1, .slice A0_2 l0_2.length c0_2] 22 (0, 0)) (by (with_reducible repeat (first | refine blk_drewN ?_ _ | refine blk_drew ?_ | refine blk_alloc ?_ _)); exact BK151.out) hb); have n5_ := Aside0.mk (below_step (by repeat (first | (with_reducible first | exact HB.out | apply below_alloc | apply pw_below_drewN | apply below_drew1 | refine below_set ?_ GE151.out) | exact HB.out)) hb); clear HO_4; clear HO_7; clear HO167; clear HO171; clear BK151; clear HB; have HO_4 := n0_; have HO_7 := n1_; have HO167 := n2_; have HO171 := n3_; have BK151 := n4_; have HB := n5_; clear n0_ n1_ n2_ n3_ n4_ n5_; (try clear hb); (try clear hb2); (try clear hk); (try clear hi)) | ((with_reducible refine gate_builtin (b := .append) (xs := #[.tmp 42, .tmp 45]) rfl ?_); at_builtin; refine Kd.R_append Kd.string (w0 := w) w.heap.size rfl (.tmp 42) (.tmp 45) 40 9 (.string ⟨#[]⟩) 16 rfl Tryd.underlying40 info9 rfl (by decide) (by omega) u4 x4_1 t172 [.string t172] (fun k_ => some k_ ≠ (u7 : Value).ownBlock ∧ some k_ ≠ (.slice Ao28 y169.length co28 : Value).ownBlock) (fun _ => False) rfl rfl ?aP (fun _ hk => hk.elim) ?aF ?aO ?aB ?aS ?aL ?_; (case aP => exact rfl); (case aB => exact (by repeat (first | (with_reducible first | exact HB.out | apply below_alloc | apply pw_below_drewN | apply below_drew1 | refine below_set ?_ GE151.out) | exact HB.out))); (case aF => exact (fun k_ hk => ⟨Kd.fresh' (Kd.R_lt (by (with_reducible repeat (first | apply Kd.R_alloc | apply Kd.R_drewN | apply Kd.R_drew)); exact HO_7.out)) k_ hk, Kd.fresh' (Kd.R_lt (by (with_reducible repeat (first | apply Kd.R_alloc | apply Kd.R_drewN | apply Kd.R_drew)); exact HO171.out)) k_ hk⟩)); (case aO => exact (by (with_reducible repeat (first | apply Kd.R_alloc | apply Kd.R_drewN | apply Kd.R_drew)); exact HO_4.out)); (case aS => exact (below_size (by repeat (first | (with_reducible first | exact HB.out | apply below_alloc | apply pw_below_drewN | apply below_drew1 | refine below_set ?_ GE151.out) | exact HB.out)))); (case aL => have := LMc23.out; omega); intro v174 w30 ho hb hg hat; rw [← Ny173.out] at ho; have n0_ := Aside0.mk (Kd.R_after (ok := (fun k_ => some k_ ≠ (.slice Ao28 y169.length co28 : Value).ownBlock)) (by (with_reducible repeat (first | apply Kd.R_alloc | apply Kd.R_drewN | apply Kd.R_drew)); exact Kd.R_mono HO_7.out (fun _ hk => ⟨hk.2, hk.1⟩)) hg hat); have n1_ := Aside0.mk (blk_grown (g := gb151) (o := .cells #[.slice A0_0 l0_0.length c0_0, .slice A0_1 l0_1.length c0_1, .slice A0_2 l0_2.length c0_2] 22 (0, 0)) (by (with_reducible repeat (first | refine blk_drewN ?_ _ | refine blk_drew ?_ | refine blk_alloc ?_ _)); exact BK151.out) hg (Kd.R_ne HO_4.out BK151.out (by decide))); have n2_ := Aside0.mk (Kd.R_over' (by (with_reducible repeat (first | apply Kd.R_alloc | apply Kd.R_drewN | apply Kd.R_drew)); exact HO167.out) (Kd.R_typed (by (with_reducible repeat (first | apply Kd.R_alloc | apply Kd.R_drewN | apply Kd.R_drew)); exact HO_4.out)) (by decide) hg); have n3_ := Aside0.mk (Kd.R_after (ok := (fun k_ => some k_ ≠ (u7 : Value).ownBlock)) (by (with_reducible repeat (first | apply Kd.R_alloc | apply Kd.R_drewN | apply Kd.R_drew)); exact Kd.R_mono HO171.out (fun _ hk => ⟨hk.2, hk.1.2⟩)) hg hat); have n4_ := Aside0.mk (hb); have n5_ := Aside0.mk (ho); clear HO_7; clear BK151; clear HO167; clear HO171; clear HB; clear HO_4; have HO_7 := n0_; have BK151 := n1_; have HO167 := n2_; have HO171 := n3_; have HB := n4_; have HO175 := n5_; clear n0_ n1_ n2_ n3_ n4_ n5_; clear ho hb hg hat))
                            go_roundg k2
                            case measure => have := HK1.out; have := HK2.out; omega
                            case rel => exact ⟨(y173), (wrap64 (x16_1 + 1)), (by first | rfl | (simp; done) | (simp [*]; done) | (simp; exact (fun l : List UInt8 => (by cases l <;> rfl : l.isEmpty = !(l != []))) _)), H', ⟨by have := HK1.out; have := HK2.out; omega⟩, ⟨by (with_reducible repeat (first | apply Kd.R_alloc | apply Kd.R_drewN | apply Kd.R_drew)); exact Kd.R_mono HO175.out (fun _ hk => trivial)⟩, ⟨by (with_reducible repeat (first | refine blk_drewN ?_ _ | refine blk_drew ?_ | refine blk_alloc ?_ _)); exact BK151.out⟩, ⟨by repeat (first | (with_reducible first | exact HB.out | apply below_alloc | apply pw_below_drewN | apply below_drew1 | refine below_set ?_ GE151.out) | exact HB.out)⟩⟩
                          · rw [if_neg c23] at H
                            exact absurd H (by simp)
                        · rw [if_neg c21] at H
                          have c21b0 : (((ctRow l1 x16_1).length : Int) == (rd t165 x16_1)) = false := beq_eq_false_iff_ne.mpr c21
                          have c21b1 : (((ctRow l1 x16_1).length : Int) != (rd t165 x16_1)) = true := bne_iff_ne.mpr c21
                          replace H := Option.bind_eq_some_iff.mp H
                          obtain ⟨t176, A310, H⟩ := H
                          replace H : (if x4_1.length < 8796093022208 then (impl_CronText.l0 k2 (x4_1 ++ [t176]) l1 (l1.length : Int) (wrap64 (x16_1 + 1))) else (none)) = some (r1, r2) := H
                          have A31 := Aside0.mk A310
                          clear A310
                          by_cases c32 : x4_1.length < 8796093022208
                          · rw [if_pos c32] at H
                            have LMc32 := Aside0.mk c32
                            clear c32
                            obtain ⟨y177, hy177⟩ : ∃ y_ : List ByteArray, y_ = (x4_1 ++ [t176]) := ⟨_, rfl⟩
                            replace H : (impl_CronText.l0 k2 y177 l1 (l1.length : Int) (wrap64 (x16_1 + 1))) = some (r1, r2) := by first | (rw [hy177]; with_reducible exact H) | (have H2_ := (Option.bind_some _ _).symm.trans H; rw [hy177]; with_reducible exact H2_) | (have H2_ := (Option.bind_some _ _).symm.trans H; with_reducible exact H2_) | with_reducible exact H | (rw [hy177]; exact H) | exact H
                            have Ny177 := Aside0.mk hy177
                            clear hy177
                            have H' := Aside0.mk H
                            clear H
                            go_wp2_with (first | ((with_reducible refine gate_callee (f := 21) rfl ?_); refine goesL_ (some 36) rfl rfl Tryd.func21 (by kernel_rfl) rfl #[] rfl (by (try simp only [List.map_toArray, List.map_cons, List.map_nil]); first | done | rfl | (simp only [List.length_drop, List.length_take]; rfl)) ?_; (with_reducible refine (impl_bounds.calls  t165 _ A18.out).mono ?_); rintro e w33 ⟨v166, rfl, ho0, hb⟩; refine ⟨_, rfl, ?_⟩; have n0_ := Aside0.mk (Kd.R_below (by (with_reducible repeat (first | apply Kd.R_alloc | apply Kd.R_drewN | apply Kd.R_drew)); exact HO_4.out) hb); have n1_ := Aside0.mk (Kd.R_below (by (with_reducible repeat (first | apply Kd.R_alloc | apply Kd.R_drewN | apply Kd.R_drew)); exact HO_7.out) hb); have n2_ := Aside0.mk (Kd.R_lower ho0 (below_size (by repeat (first | (with_reducible first | exact HB.out | apply below_alloc | apply pw_below_drewN | apply below_drew1 | refine below_set ?_ GE151.out) | exact HB.out)))); have n3_ := Aside0.mk (blk_below (g := gb151) (o := .cells #[.slice A0_0 l0_0.length c0_0, .slice A0_1 l0_1.length c0_1, .slice A0_2 l0_2.length c0_2] 22 (0, 0)) (by (with_reducible repeat (first | refine blk_drewN ?_ _ | refine blk_drew ?_ | refine blk_alloc ?_ _)); exact BK151.out) hb); have n4_ := Aside0.mk (below_step (by repeat (first | (with_reducible first | exact HB.out | apply below_alloc | apply pw_below_drewN | apply below_drew1 | refine below_set ?_ GE151.out) | exact HB.out)) hb); clear HO_4; clear HO_7; clear BK151; clear HB; have HO_4 := n0_; have HO_7 := n1_; have HO167 := n2_; have BK151 := n3_; have HB := n4_; clear n0_ n1_ n2_ n3_ n4_; (try clear hb); (try clear hb2); (try clear hk); (try clear hi); (try clear ho0); obtain ⟨Ao34, co34, eo34⟩ := Kd.R_slice HO167.out; subst eo34; have p168 : 0 ≤ (x16_1 : Int) := of_decide_eq_true (by first | (with_reducible assumption) | assumption); have q168 : x16_1 < (t165.length : Int) := of_decide_eq_true (by first | (with_reducible assumption) | assumption); obtain ⟨ad168, e168, hx168_0⟩ := Kd.at_int (Kd.R_reads' HO167.out).2.2 x16_1 p168 q168; cases e168; replace p168 := eq_true p168; replace q168 := eq_true q168; obtain ⟨Ao35, co35, eo35⟩ := Kd.R_slice HO_7.out; subst eo35) | ((with_reducible refine gate_callee (f := 22) rfl ?_); refine goesL_ (some 44) rfl rfl Tryd.func22 (by kernel_rfl) rfl #[.slice Ao35 x7_2.length co35, .string (⟨#[44]⟩ : ByteArray)] rfl (by (try simp only [List.map_toArray, List.map_cons, List.map_nil]); first | done | rfl | (simp only [List.length_drop, List.length_take]; rfl)) ?_; (with_reducible refine (strings_Join.calls _ _ x7_2 (⟨#[44]⟩ : ByteArray) t176 _ ?side1 ?side2 A31.out).mono ?_); (case side1 => repeat (first | exact (Kd.R_reads' HO_7.out).2.2 | (with_reducible refine Kd.C_alloc ?_ _) | (with_reducible refine Kd.C_drewN ?_ _) | (with_reducible refine Kd.C_drew ?_))); (case side2 => exact (Kd.R_reads' HO_7.out).2.1); rintro e w36 ⟨rfl, hb⟩; refine ⟨_, rfl, ?_⟩; have n0_ := Aside0.mk (Kd.R_below (by (with_reducible repeat (first | apply Kd.R_alloc | apply Kd.R_drewN | apply Kd.R_drew)); exact HO_4.out) hb); have n1_ := Aside0.mk (Kd.R_below (by (with_reducible repeat (first | apply Kd.R_alloc | apply Kd.R_drewN | apply Kd.R_drew)); exact HO_7.out) hb); have n2_ := Aside0.mk (Kd.R_below (by (with_reducible repeat (first | apply Kd.R_alloc | apply Kd.R_drewN | apply Kd.R_drew)); exact HO167.out) hb); have n3_ := Aside0.mk (blk_below (g := gb151) (o := .cells #[.slice A0_0 l0_0.length c0_0, .slice A0_1 l0_1.length c0_1, .slice A0_2 l0_2.length c0_2] 22 (0, 0)) (by (with_reducible repeat (first | refine blk_drewN ?_ _ | refine blk_drew ?_ | refine blk_alloc ?_ _)); exact BK151.out) hb); have n4_ := Aside0.mk (below_step (by repeat (first | (with_reducible first | exact HB.out | apply below_alloc | apply pw_below_drewN | apply below_drew1 | refine below_set ?_ GE151.out) | exact HB.out)) hb); clear HO_4; clear HO_7; clear HO167; clear BK151; clear HB; have HO_4 := n0_; have HO_7 := n1_; have HO167 := n2_; have BK151 := n3_; have HB := n4_; clear n0_ n1_ n2_ n3_ n4_; (try clear hb); (try clear hb2); (try clear hk); (try clear hi)) | ((with_reducible refine gate_builtin (b := .append) (xs := #[.tmp 42, .tmp 45]) rfl ?_); at_builtin; refine Kd.R_append Kd.string (w0 := w) w.heap.size rfl (.tmp 42) (.tmp 45) 40 9 (.string ⟨#[]⟩) 16 rfl Tryd.underlying40 info9 rfl (by decide) (by omega) u4 x4_1 t176 [.string t176] (fun k_ => some k_ ≠ (.slice Ao35 x7_2.length co35 : Value).ownBlock) (fun _ => False) rfl rfl ?aP (fun _ hk => hk.elim) ?aF ?aO ?aB ?aS ?aL ?_; (case aP => exact rfl); (case aB => exact (by repeat (first | (with_reducible first | exact HB.out | apply below_alloc | apply pw_below_drewN | apply below_drew1 | refine below_set ?_ GE151.out) | exact HB.out))); (case aF => exact (fun k_ hk => Kd.fresh' (Kd.R_lt (by (with_reducible repeat (first | apply Kd.R_alloc | apply Kd.R_drewN | apply Kd.R_drew)); exact HO_7.out)) k_ hk)); (case aO => exact (by (with_reducible repeat (first | apply Kd.R_alloc | apply Kd.R_drewN | apply Kd.R_drew)); exact HO_4.out)); (case aS => exact (below_size (by repeat (first | (with_reducible first | exact HB.out | apply below_alloc | apply pw_below_drewN | apply below_drew1 | refine below_set ?_ GE151.out) | exact HB.out)))); (case aL => have := LMc32.out; omega); intro v178 w37 ho hb hg hat; rw [← Ny177.out] at ho; have n0_ := Aside0.mk (Kd.R_after (ok := (fun _ => True)) (by (with_reducible repeat (first | apply Kd.R_alloc | apply Kd.R_drewN | apply Kd.R_drew)); exact Kd.R_mono HO_7.out (fun _ hk => ⟨trivial, hk⟩)) hg hat); have n1_ := Aside0.mk (blk_grown (g := gb151) (o := .cells #[.slice A0_0 l0_0.length c0_0, .slice A0_1 l0_1.length c0_1, .slice A0_2 l0_2.length c0_2] 22 (0, 0)) (by (with_reducible repeat (first | refine blk_drewN ?_ _ | refine blk_drew ?_ | refine blk_alloc ?_ _)); exact BK151.out) hg (Kd.R_ne HO_4.out BK151.out (by decide))); have n2_ := Aside0.mk (Kd.R_over' (by (with_reducible repeat (first | apply Kd.R_alloc | apply Kd.R_drewN | apply Kd.R_drew)); exact HO167.out) (Kd.R_typed (by (with_reducible repeat (first | apply Kd.R_alloc | apply Kd.R_drewN | apply Kd.R_drew)); exact HO_4.out)) (by decide) hg); have n3_ := Aside0.mk (hb); have n4_ := Aside0.mk (ho); clear HO_7; clear BK151; clear HO167; clear HB; clear HO_4; have HO_7 := n0_; have BK151 := n1_; have HO167 := n2_; have HB := n3_; have HO179 := n4_; clear n0_ n1_ n2_ n3_ n4_; clear ho hb hg hat))
                            go_roundg k2
                            case measure => have := HK1.out; have := HK2.out; omega
                            case rel => exact ⟨(y177), (wrap64 (x16_1 + 1)), (by first | rfl | (simp; done) | (simp [*]; done) | (simp; exact (fun l : List UInt8 => (by cases l <;> rfl : l.isEmpty = !(l != []))) _)), H', ⟨by have := HK1.out; have := HK2.out; omega⟩, ⟨by (with_reducible repeat (first | apply Kd.R_alloc | apply Kd.R_drewN | apply Kd.R_drew)); exact Kd.R_mono HO179.out (fun _ hk => trivial)⟩, ⟨by (with_reducible repeat (first | refine blk_drewN ?_ _ | refine blk_drew ?_ | refine blk_alloc ?_ _)); exact BK151.out⟩, ⟨by repeat (first | (with_reducible first | exact HB.out | apply below_alloc | apply pw_below_drewN | apply below_drew1 | refine below_set ?_ GE151.out) | exact HB.out)⟩⟩
                          · rw [if_neg c32] at H
                            exact absurd H (by simp)
                      · rw [if_neg c20] at H
                        exact absurd H (by simp)
                    · rw [if_neg c19] at H
                      exact absurd H (by simp)
            · rw [if_neg c8] at H
              exact absurd H (by simp)
          · rw [if_neg c7] at H
            exact absurd H (by simp)
        · rw [if_neg c6] at H
          have c6b0 : decide (x16_1 < (l1.length : Int)) = false := decide_eq_false c6
          try (have c6b0q := c6b0; rw [hl156_0] at c6b0q)
          try (have c6b0q := c6b0; rw [hl156_0] at c6b0q)
          clear c6
          replace H := Option.bind_eq_some_iff.mp H
          obtain ⟨t155, A380, H⟩ := H
          replace H : (some (t155, true)) = some (r1, r2) := H
          have A38 := Aside0.mk A380
          clear A380
          simp only [Option.some.injEq, Prod.mk.injEq] at H
          obtain ⟨rfl, rfl⟩ := H
          obtain ⟨Ao39, co39, eo39⟩ := Kd.R_slice HO_4.out
          subst eo39
          go_wp2_with (first | ((with_reducible refine gate_callee (f := 22) rfl ?_); refine goesL_ (some 49) rfl rfl Tryd.func22 (by kernel_rfl) rfl #[.slice Ao39 x4_1.length co39, .string (⟨#[32]⟩ : ByteArray)] rfl (by (try simp only [List.map_toArray, List.map_cons, List.map_nil]); first | done | rfl | (simp only [List.length_drop, List.length_take]; rfl)) ?_; (with_reducible refine (strings_Join.calls _ _ x4_1 (⟨#[32]⟩ : ByteArray) t155 _ ?side1 ?side2 A38.out).mono ?_); (case side1 => repeat (first | exact (Kd.R_reads' HO_4.out).2.2 | (with_reducible refine Kd.C_alloc ?_ _) | (with_reducible refine Kd.C_drewN ?_ _) | (with_reducible refine Kd.C_drew ?_))); (case side2 => exact (Kd.R_reads' HO_4.out).2.1); rintro e w40 ⟨rfl, hb⟩; refine ⟨_, rfl, ?_⟩; have n0_ := Aside0.mk (Kd.R_below (by (with_reducible repeat (first | apply Kd.R_alloc | apply Kd.R_drewN | apply Kd.R_drew)); exact HO_4.out) hb); have n1_ := Aside0.mk (blk_below (g := gb151) (o := .cells #[.slice A0_0 l0_0.length c0_0, .slice A0_1 l0_1.length c0_1, .slice A0_2 l0_2.length c0_2] 22 (0, 0)) (by (with_reducible repeat (first | refine blk_drewN ?_ _ | refine blk_drew ?_ | refine blk_alloc ?_ _)); exact BK151.out) hb); have n2_ := Aside0.mk (below_step (by repeat (first | (with_reducible first | exact HB.out | apply below_alloc | apply pw_below_drewN | apply below_drew1 | refine below_set ?_ GE151.out) | exact HB.out)) hb); clear HO_4; clear BK151; clear HB; have HO_4 := n0_; have BK151 := n1_; have HB := n2_; clear n0_ n1_ n2_; (try clear hb); (try clear hb2); (try clear hk); (try clear hi)))
          go_ret2
          exact ⟨by first | rfl | (simp [errW_none, errW_some] <;> rfl) | (simp [*, errW_none, errW_some] <;> rfl), by repeat (first | (with_reducible first | exact HB.out | apply below_alloc | apply pw_below_drewN | apply below_drew1 | refine below_set ?_ GE151.out) | exact HB.out)⟩

/-! ### laws_eqIntS: function 23 -/
def laws_eqIntS.l0 : Nat → List Int → List Int → Int → Option (Bool)
  | 0, _, _, _ => none
  | k + 1, x0, x1, x5 => if x5 < (x0.length : Int) then (if 0 ≤ x5 then (if x5 < (x1.length : Int) then (if (rd x0 x5) = (rd x1 x5) then (laws_eqIntS.l0 k x0 x1 (wrap64 (x5 + 1))) else (some false)) else (none)) else (none)) else (some true)
def laws_eqIntS.f (k : Nat) (l0 : List Int) (l1 : List Int) : Option (Bool) := if (l0.length : Int) = (l1.length : Int) then (laws_eqIntS.l0 k l0 l1 0) else (some false)
theorem laws_eqIntS.mono_l : ∀ k, (∀ y0 y1 y2, LeO (laws_eqIntS.l0 k y0 y1 y2) (laws_eqIntS.l0 (k + 1) y0 y1 y2))
  | 0 => fun _ _ _ r h => by simp [laws_eqIntS.l0] at h
  | k + 1 => by
    have ih0 := laws_eqIntS.mono_l k
    · intro y0 y1 y2
      unfold laws_eqIntS.l0
      repeat' first
      | (with_reducible exact ih0 _ _ _)
      | (with_reducible exact LeO.refl _)
      | (with_reducible exact LeO.none _)
      | (with_reducible refine LeO.ite ?_ ?_)
      | (with_reducible refine LeO.bind ?_ (fun _ => ?_))
      | exact ih0 _ _ _
      | exact LeO.none _
      | refine LeO.ite ?_ ?_
      | refine LeO.bind ?_ (fun _ => ?_)
theorem laws_eqIntS.mono : ∀ a0 a1 k, LeO (laws_eqIntS.f k a0 a1) (laws_eqIntS.f (k + 1) a0 a1) := by
  intro a0 a1 k
  have ih0 := laws_eqIntS.mono_l k
  unfold laws_eqIntS.f
  repeat' first
      | (with_reducible exact ih0 _ _ _)
      | (with_reducible exact LeO.refl _)
      | (with_reducible exact LeO.none _)
      | (with_reducible refine LeO.ite ?_ ?_)
      | (with_reducible refine LeO.bind ?_ (fun _ => ?_))
      | exact ih0 _ _ _
      | exact LeO.none _
      | refine LeO.ite ?_ ?_
      | refine LeO.bind ?_ (fun _ => ?_)
set_option maxHeartbeats 8000000 in
set_option maxRecDepth 100000 in
theorem laws_eqIntS.calls (k : Nat) (A0 : Option Addr) (c0 : Nat) (l0 : List Int) (A1 : Option Addr) (c1 : Nat) (l1 : List Int) (r : Bool) (w : World) (hr0 : Kd.C (Kd.int .i64) w A0 l0.length l0) (hc0 : l0.length ≤ c0) (hr1 : Kd.C (Kd.int .i64) w A1 l1.length l1) (hc1 : l1.length ≤ c1) (h : laws_eqIntS.f k l0 l1 = some r) :
    Calls Tryd.prog 23 #[.slice A0 l0.length c0, .slice A1 l1.length c1] w fun e w' => e = .returned (.bool r) ∧ Drawn0 w w' := by
  have HR0 := Aside0.mk hr0
  have HC0 := Aside0.mk hc0
  clear hr0 hc0
  have HR1 := Aside0.mk hr1
  have HC1 := Aside0.mk hc1
  clear hr1 hc1
  have H : (if (l0.length : Int) = (l1.length : Int) then (laws_eqIntS.l0 k l0 l1 0) else (some false)) = some r := h
  clear h
  by_cases c3 : (l0.length : Int) = (l1.length : Int)
  · rw [if_pos c3] at H
    have c3b0 : ((l0.length : Int) == (l1.length : Int)) = true := beq_iff_eq.mpr c3
    have c3b1 : ((l0.length : Int) != (l1.length : Int)) = false := bne_eq_false_iff_eq.mpr c3
    have c3b2 : (l0.length == l1.length) = true := by first | simpa using c3 | (simp at c3 ⊢; omega)
    clear c3
    have H' := Aside0.mk H
    clear H
    go_enter Tryd.func23, Tryd.ntmps23
    go_wp2
    repeat (go_quiet (fail); try go_wp2)
    go_loopg [5] k (fun kq v5 w' => ∃ (x5_1 : Int), v5 = .int .i64 x5_1 ∧ Aside0 (laws_eqIntS.l0 kq l0 l1 x5_1 = some r) ∧ Aside0 (kq ≤ k) ∧ Drawn0 w w')
    case atStart => exact ⟨(0), (by first | rfl | (simp; done) | (simp [*]; done) | (simp; exact (fun l : List UInt8 => (by cases l <;> rfl : l.isEmpty = !(l != []))) _)), H', ⟨Nat.le_refl _⟩, by repeat (first | exact Drawn0.refl _ | apply Drawn0.step)⟩
    case round =>
      clear H'
      try clear c1
      try clear c2
      try clear p2
      try clear c3
      try clear c3b0
      try clear c3b1
      try clear c3b2
      obtain ⟨x5_1, rfl, HA, HK1, ⟨m1, rfl⟩⟩ := hrel
      cases gk with
      | zero => exact absurd HA.out (by simp [laws_eqIntS.l0])
      | succ k1 =>
        have H := HA.out
        clear HA
        simp only [laws_eqIntS.l0] at H
        by_cases c4 : x5_1 < (l0.length : Int)
        · rw [if_pos c4] at H
          have c4b0 : decide (x5_1 < (l0.length : Int)) = true := decide_eq_true c4
          clear c4
          by_cases c5 : 0 ≤ x5_1
          · rw [if_pos c5] at H
            have c5b0 : decide (0 ≤ x5_1) = true := decide_eq_true c5
            clear c5
            by_cases c6 : x5_1 < (l1.length : Int)
            · rw [if_pos c6] at H
              have c6b0 : decide (x5_1 < (l1.length : Int)) = true := decide_eq_true c6
              clear c6
              by_cases c7 : (rd l0 x5_1) = (rd l1 x5_1)
              · rw [if_pos c7] at H
                have c7b0 : ((rd l0 x5_1) == (rd l1 x5_1)) = true := beq_iff_eq.mpr c7
                have c7b1 : ((rd l0 x5_1) != (rd l1 x5_1)) = false := bne_eq_false_iff_eq.mpr c7
                clear c7
                have H' := Aside0.mk H
                clear H
                have p150 : 0 ≤ (x5_1 : Int) := of_decide_eq_true (by first | (with_reducible assumption) | assumption)
                have q150 : x5_1 < (l0.length : Int) := of_decide_eq_true (by first | (with_reducible assumption) | assumption)
                obtain ⟨ad150, e150, hx150_0⟩ := Kd.at_int HR0.out x5_1 p150 q150
                cases e150
                replace p150 := eq_true p150
                replace q150 := eq_true q150
                have p151 : 0 ≤ (x5_1 : Int) := of_decide_eq_true (by first | (with_reducible assumption) | assumption)
                have q151 : x5_1 < (l1.length : Int) := of_decide_eq_true (by first | (with_reducible assumption) | assumption)
                obtain ⟨ad151, e151, hx151_0⟩ := Kd.at_int HR1.out x5_1 p151 q151
                cases e151
                replace p151 := eq_true p151
                replace q151 := eq_true q151
                go_wp2
                repeat (go_quiet (fail); try go_wp2)
                go_roundg k1
                case measure => have := HK1.out; omega
                case rel => exact ⟨(wrap64 (x5_1 + 1)), (by first | rfl | (simp; done) | (simp [*]; done) | (simp; exact (fun l : List UInt8 => (by cases l <;> rfl : l.isEmpty = !(l != []))) _)), H', ⟨by have := HK1.out; omega⟩, by repeat (first | exact Drawn0.refl _ | apply Drawn0.step)⟩
              · rw [if_neg c7] at H
                have c7b0 : ((rd l0 x5_1) == (rd l1 x5_1)) = false := beq_eq_false_iff_ne.mpr c7
                have c7b1 : ((rd l0 x5_1) != (rd l1 x5_1)) = true := bne_iff_ne.mpr c7
                obtain rfl := Option.some.inj H
                have p150 : 0 ≤ (x5_1 : Int) := of_decide_eq_true (by first | (with_reducible assumption) | assumption)
                have q150 : x5_1 < (l0.length : Int) := of_decide_eq_true (by first | (with_reducible assumption) | assumption)
                obtain ⟨ad150, e150, hx150_0⟩ := Kd.at_int HR0.out x5_1 p150 q150
                cases e150
                replace p150 := eq_true p150
                replace q150 := eq_true q150
                have p151 : 0 ≤ (x5_1 : Int) := of_decide_eq_true (by first | (with_reducible assumption) | assumption)
                have q151 : x5_1 < (l1.length : Int) := of_decide_eq_true (by first | (with_reducible assumption) | assumption)
                obtain ⟨ad151, e151, hx151_0⟩ := Kd.at_int HR1.out x5_1 p151 q151
                cases e151
                replace p151 := eq_true p151
                replace q151 := eq_true q151
                go_wp2
                repeat (go_quiet (fail); try go_wp2)
                go_ret
                exact ⟨by first | rfl | (simp; done) | (simp [*]; done), by repeat (first | exact Drawn0.refl _ | apply Drawn0.step)⟩
            · rw [if_neg c6] at H
              exact absurd H (by simp)
          · rw [if_neg c5] at H
            exact absurd H (by simp)
        · rw [if_neg c4] at H
          have c4b0 : decide (x5_1 < (l0.length : Int)) = false := decide_eq_false c4
          clear c4
          obtain rfl := Option.some.inj H
          go_wp2
          repeat (go_quiet (fail); try go_wp2)
          go_ret
          exact ⟨by first | rfl | (simp; done) | (simp [*]; done), by repeat (first | exact Drawn0.refl _ | apply Drawn0.step)⟩
  · rw [if_neg c3] at H
    have c3b0 : ((l0.length : Int) == (l1.length : Int)) = false := beq_eq_false_iff_ne.mpr c3
    have c3b1 : ((l0.length : Int) != (l1.length : Int)) = true := bne_iff_ne.mpr c3
    have c3b2 : (l0.length == l1.length) = false := by first | simpa using c3 | (simp at c3 ⊢; omega)
    obtain rfl := Option.some.inj H
    go_enter Tryd.func23, Tryd.ntmps23
    go_wp2
    repeat (go_quiet (fail); try go_wp2)
    go_ret
    exact ⟨by first | rfl | (simp; done) | (simp [*]; done), by repeat (first | exact Drawn0.refl _ | apply Drawn0.step)⟩

end Go.Proofs.YtbljelkmmakgpaaDoor.PFnExactCronText
