-- written by xprint.py (a program of this session's, over the kit's print): printed functions, and some by hand
import Derived.Test.YtpgegjbnnbkhiaaPFnExactIsSchedulex0
import Derived.Test.YtpgegjbnnbkhiaaPFnExactIsSchedulex2
import Derived.Test.YtpgegjbnnbkhiaaPFnExactIsSchedulex3
namespace Go.Proofs.Ytpgegjbnnbkhiaa.PFnExactIsSchedule
open Go.RowKit Go.Proofs.YtpgegjbnnbkhiaaW.PrintWords Go.Proofs.YtpgegjbnnbkhiaaW.PrintLast Go.Proofs.YtpgegjbnnbkhiaaW.PrintMore
attribute [local go_sem] max2_int min2_int max_two min_two max_three min_three max_four min_four   -- for this text's walks alone
set_option linter.unusedVariables false
set_option linter.unusedSimpArgs false

/-! ### spec_IsSchedule: function 34 -/
mutual
def spec_IsSchedule.j0 : Nat → List (S53) → Int → List (S66) → Bool → Option (Bool × Bool)
  | 0, _, _, _, _ => none
  | k + 1, x0, x1, x2, x30 => if x30 = true then (some (false, false)) else (if 0 ≤ (x0.length : Int) then (if ((x0.length : Int) : Int).toNat ≤ 35184372088832 then ((some (List.replicate ((x0.length : Int) : Int).toNat 0 : List Int)).bind fun y159 => (spec_IsSchedule.l0 k x0 x1 x2 y159 (y159.length : Int) 0)) else (none)) else (none))
def spec_IsSchedule.l0 : Nat → List (S53) → Int → List (S66) → List Int → Int → Int → Option (Bool × Bool)
  | 0, _, _, _, _, _, _ => none
  | k + 1, x0, x1, x2, x8, x35, x36 => if x36 < x35 then (if 0 ≤ x36 then (if x36 < (x8.length : Int) then (spec_IsSchedule.l0 k x0 x1 x2 (x8.set (x36 : Int).toNat (-1)) x35 (wrap64 (x36 + 1))) else (none)) else (none)) else (spec_IsSchedule.l1 k x0 x1 x2 x8 x2 (x2.length : Int) 0)
def spec_IsSchedule.l1 : Nat → List (S53) → Int → List (S66) → List Int → List (S66) → Int → Int → Option (Bool × Bool)
  | 0, _, _, _, _, _, _, _ => none
  | k + 1, x0, x1, x2, x8, x43, x44, x45 => if x45 < x44 then (if 0 ≤ x45 then (if x45 < (x43.length : Int) then ((spec_l1In.f ((rd_T66 x43 x45).f0) 0 (wrap64 ((x0.length : Int) - 1))).bind fun t165 => (if t165 = true then ((spec_l1In.f ((rd_T66 x43 x45).f1) 0 (wrap64 (x1 - 1))).bind fun t166 => (if t166 = true then ((spec_l1In.f ((rd_T66 x43 x45).f2) 0 1000000).bind fun t167 => (if t167 = true then (if 0 ≤ ((rd_T66 x43 x45).f0) then (if ((rd_T66 x43 x45).f0) < (x8.length : Int) then (spec_IsSchedule.j3 k x0 x1 x2 x8 x45 x43 x44 x45 (decide ((rd x8 ((rd_T66 x43 x45).f0)) ≥ 0)) ((rd_T66 x43 x45).f0) ((rd_T66 x43 x45).f1) ((rd_T66 x43 x45).f2)) else (none)) else (none)) else (spec_IsSchedule.j3 k x0 x1 x2 x8 x45 x43 x44 x45 true ((rd_T66 x43 x45).f0) ((rd_T66 x43 x45).f1) ((rd_T66 x43 x45).f2)))) else (spec_IsSchedule.j3 k x0 x1 x2 x8 x45 x43 x44 x45 true ((rd_T66 x43 x45).f0) ((rd_T66 x43 x45).f1) ((rd_T66 x43 x45).f2)))) else (spec_IsSchedule.j3 k x0 x1 x2 x8 x45 x43 x44 x45 true ((rd_T66 x43 x45).f0) ((rd_T66 x43 x45).f1) ((rd_T66 x43 x45).f2)))) else (none)) else (none)) else (spec_IsSchedule.l3 k x0 x8 x0 (x0.length : Int) 0)
def spec_IsSchedule.j3 : Nat → List (S53) → Int → List (S66) → List Int → Int → List (S66) → Int → Int → Bool → Int → Int → Int → Option (Bool × Bool)
  | 0, _, _, _, _, _, _, _, _, _, _, _, _ => none
  | k + 1, x0, x1, x2, x8, x10, x43, x44, x45, x78, x165000, x165001, x165002 => if x78 = true then (some (false, true)) else (if 0 ≤ x165000 then (if x165000 < (x8.length : Int) then (if 0 ≤ x10 then (if x10 ≤ (x2.length : Int) then ((some (x2.take (x10 : Int).toNat : List (S66))).bind fun y170 => (spec_IsSchedule.l2 k x0 x1 x2 (x8.set (x165000 : Int).toNat x165002) x43 x44 x45 y170 (y170.length : Int) 0 x165000 x165001 x165002)) else (none)) else (none)) else (none)) else (none))
def spec_IsSchedule.l2 : Nat → List (S53) → Int → List (S66) → List Int → List (S66) → Int → Int → List (S66) → Int → Int → Int → Int → Int → Option (Bool × Bool)
  | 0, _, _, _, _, _, _, _, _, _, _, _, _, _ => none
  | k + 1, x0, x1, x2, x8, x43, x44, x45, x87, x88, x89, x165000, x165001, x165002 => if x89 < x88 then (if 0 ≤ x89 then (if x89 < (x87.length : Int) then (if ((rd_T66 x87 x89).f1) = x165001 then (if 0 ≤ x165000 then (if x165000 < (x0.length : Int) then (if ((rd_T66 x87 x89).f2) < (wrap64 (x165002 + ((rd_T53 x0 x165000).f0))) then (if 0 ≤ ((rd_T66 x87 x89).f0) then (if ((rd_T66 x87 x89).f0) < (x0.length : Int) then (if x165002 < (wrap64 (((rd_T66 x87 x89).f2) + ((rd_T53 x0 ((rd_T66 x87 x89).f0)).f0))) then (some (false, true)) else (spec_IsSchedule.l2 k x0 x1 x2 x8 x43 x44 x45 x87 x88 (wrap64 (x89 + 1)) x165000 x165001 x165002)) else (none)) else (none)) else (spec_IsSchedule.l2 k x0 x1 x2 x8 x43 x44 x45 x87 x88 (wrap64 (x89 + 1)) x165000 x165001 x165002)) else (none)) else (none)) else (spec_IsSchedule.l2 k x0 x1 x2 x8 x43 x44 x45 x87 x88 (wrap64 (x89 + 1)) x165000 x165001 x165002)) else (none)) else (none)) else (spec_IsSchedule.l1 k x0 x1 x2 x8 x43 x44 (wrap64 (x45 + 1)))
def spec_IsSchedule.l3 : Nat → List (S53) → List Int → List (S53) → Int → Int → Option (Bool × Bool)
  | 0, _, _, _, _, _ => none
  | k + 1, x0, x8, x128, x129, x130 => if x130 < x129 then (if 0 ≤ x130 then (if x130 < (x128.length : Int) then (if x130 < (x8.length : Int) then (if (rd x8 x130) < 0 then (some (false, true)) else (spec_IsSchedule.l4 k x0 x8 x130 x128 x129 x130 ((rd_T53 x128 x130).f1) (((rd_T53 x128 x130).f1).length : Int) 0)) else (none)) else (none)) else (none)) else (some (true, true))
def spec_IsSchedule.l4 : Nat → List (S53) → List Int → Int → List (S53) → Int → Int → List Int → Int → Int → Option (Bool × Bool)
  | 0, _, _, _, _, _, _, _, _, _ => none
  | k + 1, x0, x8, x14, x128, x129, x130, x141, x142, x143 => if x143 < x142 then (if 0 ≤ x143 then (if x143 < (x141.length : Int) then (if 0 ≤ (rd x141 x143) then (if (rd x141 x143) < (x8.length : Int) then (if (rd x141 x143) < (x0.length : Int) then (if 0 ≤ x14 then (if x14 < (x8.length : Int) then (if (wrap64 ((rd x8 (rd x141 x143)) + ((rd_T53 x0 (rd x141 x143)).f0))) > (rd x8 x14) then (some (false, true)) else (spec_IsSchedule.l4 k x0 x8 x14 x128 x129 x130 x141 x142 (wrap64 (x143 + 1)))) else (none)) else (none)) else (none)) else (none)) else (none)) else (none)) else (none)) else (spec_IsSchedule.l3 k x0 x8 x128 x129 (wrap64 (x130 + 1)))
end
def spec_IsSchedule.f (k : Nat) (l0 : List (S53)) (a1 : Int) (l2 : List (S66)) : Option (Bool × Bool) := (spec_GoodPlan.f k l0).bind fun t157 => (if t157 = true then ((spec_l1In.f a1 1 8).bind fun t158 => (if t158 = true then (spec_IsSchedule.j0 k l0 a1 l2 (decide ((l2.length : Int) > 30))) else (spec_IsSchedule.j0 k l0 a1 l2 true))) else (spec_IsSchedule.j0 k l0 a1 l2 true))
theorem spec_IsSchedule.mono_l : ∀ k, (∀ y0 y1 y2 y3, LeO (spec_IsSchedule.j0 k y0 y1 y2 y3) (spec_IsSchedule.j0 (k + 1) y0 y1 y2 y3)) ∧ (∀ y0 y1 y2 y3 y4 y5, LeO (spec_IsSchedule.l0 k y0 y1 y2 y3 y4 y5) (spec_IsSchedule.l0 (k + 1) y0 y1 y2 y3 y4 y5)) ∧ (∀ y0 y1 y2 y3 y4 y5 y6, LeO (spec_IsSchedule.l1 k y0 y1 y2 y3 y4 y5 y6) (spec_IsSchedule.l1 (k + 1) y0 y1 y2 y3 y4 y5 y6)) ∧ (∀ y0 y1 y2 y3 y4 y5 y6 y7 y8 y9 y10 y11, LeO (spec_IsSchedule.j3 k y0 y1 y2 y3 y4 y5 y6 y7 y8 y9 y10 y11) (spec_IsSchedule.j3 (k + 1) y0 y1 y2 y3 y4 y5 y6 y7 y8 y9 y10 y11)) ∧ (∀ y0 y1 y2 y3 y4 y5 y6 y7 y8 y9 y10 y11 y12, LeO (spec_IsSchedule.l2 k y0 y1 y2 y3 y4 y5 y6 y7 y8 y9 y10 y11 y12) (spec_IsSchedule.l2 (k + 1) y0 y1 y2 y3 y4 y5 y6 y7 y8 y9 y10 y11 y12)) ∧ (∀ y0 y1 y2 y3 y4, LeO (spec_IsSchedule.l3 k y0 y1 y2 y3 y4) (spec_IsSchedule.l3 (k + 1) y0 y1 y2 y3 y4)) ∧ (∀ y0 y1 y2 y3 y4 y5 y6 y7 y8, LeO (spec_IsSchedule.l4 k y0 y1 y2 y3 y4 y5 y6 y7 y8) (spec_IsSchedule.l4 (k + 1) y0 y1 y2 y3 y4 y5 y6 y7 y8))
  | 0 => ⟨fun _ _ _ _ r h => by simp [spec_IsSchedule.j0] at h, fun _ _ _ _ _ _ r h => by simp [spec_IsSchedule.l0] at h, fun _ _ _ _ _ _ _ r h => by simp [spec_IsSchedule.l1] at h, fun _ _ _ _ _ _ _ _ _ _ _ _ r h => by simp [spec_IsSchedule.j3] at h, fun _ _ _ _ _ _ _ _ _ _ _ _ _ r h => by simp [spec_IsSchedule.l2] at h, fun _ _ _ _ _ r h => by simp [spec_IsSchedule.l3] at h, fun _ _ _ _ _ _ _ _ _ r h => by simp [spec_IsSchedule.l4] at h⟩
  | k + 1 => by
    obtain ⟨ih0, ih1, ih2, ih3, ih4, ih5, ih6⟩ := spec_IsSchedule.mono_l k
    refine ⟨?_, ?_, ?_, ?_, ?_, ?_, ?_⟩
    · intro y0 y1 y2 y3
      unfold spec_IsSchedule.j0
      repeat' first
      | (with_reducible exact ih0 _ _ _ _)
      | (with_reducible exact ih1 _ _ _ _ _ _)
      | (with_reducible exact ih2 _ _ _ _ _ _ _)
      | (with_reducible exact ih3 _ _ _ _ _ _ _ _ _ _ _ _)
      | (with_reducible exact ih4 _ _ _ _ _ _ _ _ _ _ _ _ _)
      | (with_reducible exact ih5 _ _ _ _ _)
      | (with_reducible exact ih6 _ _ _ _ _ _ _ _ _)
      | (with_reducible exact spec_GoodPlan.mono _ _)
      | (with_reducible exact LeO.refl _)
      | (with_reducible exact LeO.none _)
      | (with_reducible refine LeO.ite ?_ ?_)
      | (with_reducible refine LeO.bind ?_ (fun _ => ?_))
      | exact ih0 _ _ _ _
      | exact ih1 _ _ _ _ _ _
      | exact ih2 _ _ _ _ _ _ _
      | exact ih3 _ _ _ _ _ _ _ _ _ _ _ _
      | exact ih4 _ _ _ _ _ _ _ _ _ _ _ _ _
      | exact ih5 _ _ _ _ _
      | exact ih6 _ _ _ _ _ _ _ _ _
      | exact spec_GoodPlan.mono _ _
      | exact LeO.none _
      | refine LeO.ite ?_ ?_
      | refine LeO.bind ?_ (fun _ => ?_)
    · intro y0 y1 y2 y3 y4 y5
      unfold spec_IsSchedule.l0
      repeat' first
      | (with_reducible exact ih0 _ _ _ _)
      | (with_reducible exact ih1 _ _ _ _ _ _)
      | (with_reducible exact ih2 _ _ _ _ _ _ _)
      | (with_reducible exact ih3 _ _ _ _ _ _ _ _ _ _ _ _)
      | (with_reducible exact ih4 _ _ _ _ _ _ _ _ _ _ _ _ _)
      | (with_reducible exact ih5 _ _ _ _ _)
      | (with_reducible exact ih6 _ _ _ _ _ _ _ _ _)
      | (with_reducible exact spec_GoodPlan.mono _ _)
      | (with_reducible exact LeO.refl _)
      | (with_reducible exact LeO.none _)
      | (with_reducible refine LeO.ite ?_ ?_)
      | (with_reducible refine LeO.bind ?_ (fun _ => ?_))
      | exact ih0 _ _ _ _
      | exact ih1 _ _ _ _ _ _
      | exact ih2 _ _ _ _ _ _ _
      | exact ih3 _ _ _ _ _ _ _ _ _ _ _ _
      | exact ih4 _ _ _ _ _ _ _ _ _ _ _ _ _
      | exact ih5 _ _ _ _ _
      | exact ih6 _ _ _ _ _ _ _ _ _
      | exact spec_GoodPlan.mono _ _
      | exact LeO.none _
      | refine LeO.ite ?_ ?_
      | refine LeO.bind ?_ (fun _ => ?_)
    · intro y0 y1 y2 y3 y4 y5 y6
      unfold spec_IsSchedule.l1
      repeat' first
      | (with_reducible exact ih0 _ _ _ _)
      | (with_reducible exact ih1 _ _ _ _ _ _)
      | (with_reducible exact ih2 _ _ _ _ _ _ _)
      | (with_reducible exact ih3 _ _ _ _ _ _ _ _ _ _ _ _)
      | (with_reducible exact ih4 _ _ _ _ _ _ _ _ _ _ _ _ _)
      | (with_reducible exact ih5 _ _ _ _ _)
      | (with_reducible exact ih6 _ _ _ _ _ _ _ _ _)
      | (with_reducible exact spec_GoodPlan.mono _ _)
      | (with_reducible exact LeO.refl _)
      | (with_reducible exact LeO.none _)
      | (with_reducible refine LeO.ite ?_ ?_)
      | (with_reducible refine LeO.bind ?_ (fun _ => ?_))
      | exact ih0 _ _ _ _
      | exact ih1 _ _ _ _ _ _
      | exact ih2 _ _ _ _ _ _ _
      | exact ih3 _ _ _ _ _ _ _ _ _ _ _ _
      | exact ih4 _ _ _ _ _ _ _ _ _ _ _ _ _
      | exact ih5 _ _ _ _ _
      | exact ih6 _ _ _ _ _ _ _ _ _
      | exact spec_GoodPlan.mono _ _
      | exact LeO.none _
      | refine LeO.ite ?_ ?_
      | refine LeO.bind ?_ (fun _ => ?_)
    · intro y0 y1 y2 y3 y4 y5 y6 y7 y8 y9 y10 y11
      unfold spec_IsSchedule.j3
      repeat' first
      | (with_reducible exact ih0 _ _ _ _)
      | (with_reducible exact ih1 _ _ _ _ _ _)
      | (with_reducible exact ih2 _ _ _ _ _ _ _)
      | (with_reducible exact ih3 _ _ _ _ _ _ _ _ _ _ _ _)
      | (with_reducible exact ih4 _ _ _ _ _ _ _ _ _ _ _ _ _)
      | (with_reducible exact ih5 _ _ _ _ _)
      | (with_reducible exact ih6 _ _ _ _ _ _ _ _ _)
      | (with_reducible exact spec_GoodPlan.mono _ _)
      | (with_reducible exact LeO.refl _)
      | (with_reducible exact LeO.none _)
      | (with_reducible refine LeO.ite ?_ ?_)
      | (with_reducible refine LeO.bind ?_ (fun _ => ?_))
      | exact ih0 _ _ _ _
      | exact ih1 _ _ _ _ _ _
      | exact ih2 _ _ _ _ _ _ _
      | exact ih3 _ _ _ _ _ _ _ _ _ _ _ _
      | exact ih4 _ _ _ _ _ _ _ _ _ _ _ _ _
      | exact ih5 _ _ _ _ _
      | exact ih6 _ _ _ _ _ _ _ _ _
      | exact spec_GoodPlan.mono _ _
      | exact LeO.none _
      | refine LeO.ite ?_ ?_
      | refine LeO.bind ?_ (fun _ => ?_)
    · intro y0 y1 y2 y3 y4 y5 y6 y7 y8 y9 y10 y11 y12
      unfold spec_IsSchedule.l2
      repeat' first
      | (with_reducible exact ih0 _ _ _ _)
      | (with_reducible exact ih1 _ _ _ _ _ _)
      | (with_reducible exact ih2 _ _ _ _ _ _ _)
      | (with_reducible exact ih3 _ _ _ _ _ _ _ _ _ _ _ _)
      | (with_reducible exact ih4 _ _ _ _ _ _ _ _ _ _ _ _ _)
      | (with_reducible exact ih5 _ _ _ _ _)
      | (with_reducible exact ih6 _ _ _ _ _ _ _ _ _)
      | (with_reducible exact spec_GoodPlan.mono _ _)
      | (with_reducible exact LeO.refl _)
      | (with_reducible exact LeO.none _)
      | (with_reducible refine LeO.ite ?_ ?_)
      | (with_reducible refine LeO.bind ?_ (fun _ => ?_))
      | exact ih0 _ _ _ _
      | exact ih1 _ _ _ _ _ _
      | exact ih2 _ _ _ _ _ _ _
      | exact ih3 _ _ _ _ _ _ _ _ _ _ _ _
      | exact ih4 _ _ _ _ _ _ _ _ _ _ _ _ _
      | exact ih5 _ _ _ _ _
      | exact ih6 _ _ _ _ _ _ _ _ _
      | exact spec_GoodPlan.mono _ _
      | exact LeO.none _
      | refine LeO.ite ?_ ?_
      | refine LeO.bind ?_ (fun _ => ?_)
    · intro y0 y1 y2 y3 y4
      unfold spec_IsSchedule.l3
      repeat' first
      | (with_reducible exact ih0 _ _ _ _)
      | (with_reducible exact ih1 _ _ _ _ _ _)
      | (with_reducible exact ih2 _ _ _ _ _ _ _)
      | (with_reducible exact ih3 _ _ _ _ _ _ _ _ _ _ _ _)
      | (with_reducible exact ih4 _ _ _ _ _ _ _ _ _ _ _ _ _)
      | (with_reducible exact ih5 _ _ _ _ _)
      | (with_reducible exact ih6 _ _ _ _ _ _ _ _ _)
      | (with_reducible exact spec_GoodPlan.mono _ _)
      | (with_reducible exact LeO.refl _)
      | (with_reducible exact LeO.none _)
      | (with_reducible refine LeO.ite ?_ ?_)
      | (with_reducible refine LeO.bind ?_ (fun _ => ?_))
      | exact ih0 _ _ _ _
      | exact ih1 _ _ _ _ _ _
      | exact ih2 _ _ _ _ _ _ _
      | exact ih3 _ _ _ _ _ _ _ _ _ _ _ _
      | exact ih4 _ _ _ _ _ _ _ _ _ _ _ _ _
      | exact ih5 _ _ _ _ _
      | exact ih6 _ _ _ _ _ _ _ _ _
      | exact spec_GoodPlan.mono _ _
      | exact LeO.none _
      | refine LeO.ite ?_ ?_
      | refine LeO.bind ?_ (fun _ => ?_)
    · intro y0 y1 y2 y3 y4 y5 y6 y7 y8
      unfold spec_IsSchedule.l4
      repeat' first
      | (with_reducible exact ih0 _ _ _ _)
      | (with_reducible exact ih1 _ _ _ _ _ _)
      | (with_reducible exact ih2 _ _ _ _ _ _ _)
      | (with_reducible exact ih3 _ _ _ _ _ _ _ _ _ _ _ _)
      | (with_reducible exact ih4 _ _ _ _ _ _ _ _ _ _ _ _ _)
      | (with_reducible exact ih5 _ _ _ _ _)
      | (with_reducible exact ih6 _ _ _ _ _ _ _ _ _)
      | (with_reducible exact spec_GoodPlan.mono _ _)
      | (with_reducible exact LeO.refl _)
      | (with_reducible exact LeO.none _)
      | (with_reducible refine LeO.ite ?_ ?_)
      | (with_reducible refine LeO.bind ?_ (fun _ => ?_))
      | exact ih0 _ _ _ _
      | exact ih1 _ _ _ _ _ _
      | exact ih2 _ _ _ _ _ _ _
      | exact ih3 _ _ _ _ _ _ _ _ _ _ _ _
      | exact ih4 _ _ _ _ _ _ _ _ _ _ _ _ _
      | exact ih5 _ _ _ _ _
      | exact ih6 _ _ _ _ _ _ _ _ _
      | exact spec_GoodPlan.mono _ _
      | exact LeO.none _
      | refine LeO.ite ?_ ?_
      | refine LeO.bind ?_ (fun _ => ?_)
theorem spec_IsSchedule.mono : ∀ a0 a1 a2 k, LeO (spec_IsSchedule.f k a0 a1 a2) (spec_IsSchedule.f (k + 1) a0 a1 a2) := by
  intro a0 a1 a2 k
  obtain ⟨ih0, ih1, ih2, ih3, ih4, ih5, ih6⟩ := spec_IsSchedule.mono_l k
  unfold spec_IsSchedule.f
  repeat' first
      | (with_reducible exact ih0 _ _ _ _)
      | (with_reducible exact ih1 _ _ _ _ _ _)
      | (with_reducible exact ih2 _ _ _ _ _ _ _)
      | (with_reducible exact ih3 _ _ _ _ _ _ _ _ _ _ _ _)
      | (with_reducible exact ih4 _ _ _ _ _ _ _ _ _ _ _ _ _)
      | (with_reducible exact ih5 _ _ _ _ _)
      | (with_reducible exact ih6 _ _ _ _ _ _ _ _ _)
      | (with_reducible exact spec_GoodPlan.mono _ _)
      | (with_reducible exact LeO.refl _)
      | (with_reducible exact LeO.none _)
      | (with_reducible refine LeO.ite ?_ ?_)
      | (with_reducible refine LeO.bind ?_ (fun _ => ?_))
      | exact ih0 _ _ _ _
      | exact ih1 _ _ _ _ _ _
      | exact ih2 _ _ _ _ _ _ _
      | exact ih3 _ _ _ _ _ _ _ _ _ _ _ _
      | exact ih4 _ _ _ _ _ _ _ _ _ _ _ _ _
      | exact ih5 _ _ _ _ _
      | exact ih6 _ _ _ _ _ _ _ _ _
      | exact spec_GoodPlan.mono _ _
      | exact LeO.none _
      | refine LeO.ite ?_ ?_
      | refine LeO.bind ?_ (fun _ => ?_)
set_option maxHeartbeats 8000000 in
set_option maxRecDepth 100000 in
theorem spec_IsSchedule.calls (k : Nat) (A0 : Option Addr) (c0 : Nat) (l0 : List (S53)) (a1 : Int) (A2 : Option Addr) (c2 : Nat) (l2 : List (S66)) (r1 : Bool) (r2 : Bool) (w : World) (hr0 : Kd.C k53 w A0 l0.length l0) (hc0 : l0.length ≤ c0) (hr2 : Kd.C k66 w A2 l2.length l2) (hc2 : l2.length ≤ c2) (h : spec_IsSchedule.f k l0 a1 l2 = some (r1, r2)) :
    Calls Try.prog 34 #[.slice A0 l0.length c0, .int .i64 a1, .slice A2 l2.length c2] w fun e w' => e = .returned (.tuple #[.bool r1, .bool r2]) ∧ Below w.heap.size w w' := by
  have hu66 := Try.underlying66
  have hu53 := Try.underlying53
  have HR0 := Aside0.mk hr0
  have HC0 := Aside0.mk hc0
  clear hr0 hc0
  have HR2 := Aside0.mk hr2
  have HC2 := Aside0.mk hc2
  clear hr2 hc2
  have HB := Aside0.mk (Below.refl w.heap.size w)
  have H : ((spec_GoodPlan.f k l0).bind fun t157 => (if t157 = true then ((spec_l1In.f a1 1 8).bind fun t158 => (if t158 = true then (spec_IsSchedule.j0 k l0 a1 l2 (decide ((l2.length : Int) > 30))) else (spec_IsSchedule.j0 k l0 a1 l2 true))) else (spec_IsSchedule.j0 k l0 a1 l2 true))) = some (r1, r2) := h
  clear h
  have HC4 := Aside0.mk H
  clear H
  go_enter Try.func34, Try.ntmps34
  go_upto_region 1 with (fail)
  repeat (go_quiet (fail); go_upto_region 1 with (fail))
  go_cut [30] (fun v30 wc => ∃ (kq : Nat) (x30_3 : Bool), v30 = .bool x30_3 ∧ Aside0 (spec_IsSchedule.j0 kq l0 a1 l2 x30_3 = some (r1, r2)) ∧ Aside0 (kq ≤ k) ∧ Aside0 (Below w.heap.size w wc))
  case first =>
    have H := HC4.out
    clear HC4
    replace H := Option.bind_eq_some_iff.mp H
    obtain ⟨t157, A50, H⟩ := H
    replace H : (if t157 = true then ((spec_l1In.f a1 1 8).bind fun t158 => (if t158 = true then (spec_IsSchedule.j0 k l0 a1 l2 (decide ((l2.length : Int) > 30))) else (spec_IsSchedule.j0 k l0 a1 l2 true))) else (spec_IsSchedule.j0 k l0 a1 l2 true)) = some (r1, r2) := H
    have A5 := Aside0.mk A50
    clear A50
    by_cases c6 : t157 = true
    · subst c6
      have H1 : ((spec_l1In.f a1 1 8).bind fun t158 => (if t158 = true then (spec_IsSchedule.j0 k l0 a1 l2 (decide ((l2.length : Int) > 30))) else (spec_IsSchedule.j0 k l0 a1 l2 true))) = some (r1, r2) := by rw [if_pos rfl] at H; exact H
      clear H
      have H := H1
      clear H1
      replace H := Option.bind_eq_some_iff.mp H
      obtain ⟨t158, A70, H⟩ := H
      replace H : (if t158 = true then (spec_IsSchedule.j0 k l0 a1 l2 (decide ((l2.length : Int) > 30))) else (spec_IsSchedule.j0 k l0 a1 l2 true)) = some (r1, r2) := H
      have A7 := Aside0.mk A70
      clear A70
      by_cases c8 : t158 = true
      · subst c8
        have H1 : (spec_IsSchedule.j0 k l0 a1 l2 (decide ((l2.length : Int) > 30))) = some (r1, r2) := by rw [if_pos rfl] at H; exact H
        clear H
        have H := H1
        clear H1
        have H' := Aside0.mk H
        clear H
        go_wp2_with (first | (go_at_call 13; (with_reducible refine (spec_GoodPlan.calls k _ _ l0 true _ ?side1 ?side2 A5.out).mono ?_); (case side1 => repeat (first | exact (Kd.C_below HR0.out HB.out) | (with_reducible refine Kd.C_alloc ?_ _) | (with_reducible refine Kd.C_drewN ?_ _) | (with_reducible refine Kd.C_drew ?_))); (case side2 => exact HC0.out); rintro e w9 ⟨rfl, hb⟩; have n0_ := Aside0.mk (below_step (by repeat (first | (with_reducible first | exact HB.out | apply below_alloc | apply pw_below_drewN | apply below_drew1) | exact HB.out)) hb); clear HB; have HB := n0_; clear n0_; (try clear hb); (try clear hb2); (try clear hk); (try clear hi)) | (go_at_call 43; (with_reducible refine (spec_l1In.calls a1 1 8 true _ A7.out).mono ?_); rintro e w' ⟨rfl, ⟨nd, rfl⟩⟩; (try first | exact ⟨rfl, _, World.drewN_drewN _ _ _⟩ | exact ⟨rfl, _, Eq.trans (World.drewN_drewN _ _ _) (congrArg (World.drewN _) (Nat.add_assoc _ _ _))⟩)))
        repeat (go_quiet (first | (go_at_call 13; (with_reducible refine (spec_GoodPlan.calls k _ _ l0 true _ ?side1 ?side2 A5.out).mono ?_); (case side1 => repeat (first | exact (Kd.C_below HR0.out HB.out) | (with_reducible refine Kd.C_alloc ?_ _) | (with_reducible refine Kd.C_drewN ?_ _) | (with_reducible refine Kd.C_drew ?_))); (case side2 => exact HC0.out); rintro e w9 ⟨rfl, hb⟩; have n0_ := Aside0.mk (below_step (by repeat (first | (with_reducible first | exact HB.out | apply below_alloc | apply pw_below_drewN | apply below_drew1) | exact HB.out)) hb); clear HB; have HB := n0_; clear n0_; (try clear hb); (try clear hb2); (try clear hk); (try clear hi)) | (go_at_call 43; (with_reducible refine (spec_l1In.calls a1 1 8 true _ A7.out).mono ?_); rintro e w' ⟨rfl, ⟨nd, rfl⟩⟩; (try first | exact ⟨rfl, _, World.drewN_drewN _ _ _⟩ | exact ⟨rfl, _, Eq.trans (World.drewN_drewN _ _ _) (congrArg (World.drewN _) (Nat.add_assoc _ _ _))⟩))); try go_wp2_with (first | (go_at_call 13; (with_reducible refine (spec_GoodPlan.calls k _ _ l0 true _ ?side1 ?side2 A5.out).mono ?_); (case side1 => repeat (first | exact (Kd.C_below HR0.out HB.out) | (with_reducible refine Kd.C_alloc ?_ _) | (with_reducible refine Kd.C_drewN ?_ _) | (with_reducible refine Kd.C_drew ?_))); (case side2 => exact HC0.out); rintro e w9 ⟨rfl, hb⟩; have n0_ := Aside0.mk (below_step (by repeat (first | (with_reducible first | exact HB.out | apply below_alloc | apply pw_below_drewN | apply below_drew1) | exact HB.out)) hb); clear HB; have HB := n0_; clear n0_; (try clear hb); (try clear hb2); (try clear hk); (try clear hi)) | (go_at_call 43; (with_reducible refine (spec_l1In.calls a1 1 8 true _ A7.out).mono ?_); rintro e w' ⟨rfl, ⟨nd, rfl⟩⟩; (try first | exact ⟨rfl, _, World.drewN_drewN _ _ _⟩ | exact ⟨rfl, _, Eq.trans (World.drewN_drewN _ _ _) (congrArg (World.drewN _) (Nat.add_assoc _ _ _))⟩))))
        go_meet
        case rel => exact ⟨_, (decide ((l2.length : Int) > 30)), (by first | rfl | (simp; done) | (simp [*]; done)), H', ⟨by first | omega | exact Nat.le_refl _⟩, ⟨by repeat (first | (with_reducible first | exact HB.out | apply below_alloc | apply pw_below_drewN | apply below_drew1) | exact HB.out)⟩⟩
      · replace c8 := Bool.eq_false_iff.mpr c8
        subst c8
        have H1 : (spec_IsSchedule.j0 k l0 a1 l2 true) = some (r1, r2) := by rw [if_neg (show ¬ (false = true) by decide)] at H; exact H
        clear H
        have H := H1
        clear H1
        have H' := Aside0.mk H
        clear H
        go_wp2_with (first | (go_at_call 13; (with_reducible refine (spec_GoodPlan.calls k _ _ l0 true _ ?side1 ?side2 A5.out).mono ?_); (case side1 => repeat (first | exact (Kd.C_below HR0.out HB.out) | (with_reducible refine Kd.C_alloc ?_ _) | (with_reducible refine Kd.C_drewN ?_ _) | (with_reducible refine Kd.C_drew ?_))); (case side2 => exact HC0.out); rintro e w10 ⟨rfl, hb⟩; have n0_ := Aside0.mk (below_step (by repeat (first | (with_reducible first | exact HB.out | apply below_alloc | apply pw_below_drewN | apply below_drew1) | exact HB.out)) hb); clear HB; have HB := n0_; clear n0_; (try clear hb); (try clear hb2); (try clear hk); (try clear hi)) | (go_at_call 43; (with_reducible refine (spec_l1In.calls a1 1 8 false _ A7.out).mono ?_); rintro e w' ⟨rfl, ⟨nd, rfl⟩⟩; (try first | exact ⟨rfl, _, World.drewN_drewN _ _ _⟩ | exact ⟨rfl, _, Eq.trans (World.drewN_drewN _ _ _) (congrArg (World.drewN _) (Nat.add_assoc _ _ _))⟩)))
        repeat (go_quiet (first | (go_at_call 13; (with_reducible refine (spec_GoodPlan.calls k _ _ l0 true _ ?side1 ?side2 A5.out).mono ?_); (case side1 => repeat (first | exact (Kd.C_below HR0.out HB.out) | (with_reducible refine Kd.C_alloc ?_ _) | (with_reducible refine Kd.C_drewN ?_ _) | (with_reducible refine Kd.C_drew ?_))); (case side2 => exact HC0.out); rintro e w10 ⟨rfl, hb⟩; have n0_ := Aside0.mk (below_step (by repeat (first | (with_reducible first | exact HB.out | apply below_alloc | apply pw_below_drewN | apply below_drew1) | exact HB.out)) hb); clear HB; have HB := n0_; clear n0_; (try clear hb); (try clear hb2); (try clear hk); (try clear hi)) | (go_at_call 43; (with_reducible refine (spec_l1In.calls a1 1 8 false _ A7.out).mono ?_); rintro e w' ⟨rfl, ⟨nd, rfl⟩⟩; (try first | exact ⟨rfl, _, World.drewN_drewN _ _ _⟩ | exact ⟨rfl, _, Eq.trans (World.drewN_drewN _ _ _) (congrArg (World.drewN _) (Nat.add_assoc _ _ _))⟩))); try go_wp2_with (first | (go_at_call 13; (with_reducible refine (spec_GoodPlan.calls k _ _ l0 true _ ?side1 ?side2 A5.out).mono ?_); (case side1 => repeat (first | exact (Kd.C_below HR0.out HB.out) | (with_reducible refine Kd.C_alloc ?_ _) | (with_reducible refine Kd.C_drewN ?_ _) | (with_reducible refine Kd.C_drew ?_))); (case side2 => exact HC0.out); rintro e w10 ⟨rfl, hb⟩; have n0_ := Aside0.mk (below_step (by repeat (first | (with_reducible first | exact HB.out | apply below_alloc | apply pw_below_drewN | apply below_drew1) | exact HB.out)) hb); clear HB; have HB := n0_; clear n0_; (try clear hb); (try clear hb2); (try clear hk); (try clear hi)) | (go_at_call 43; (with_reducible refine (spec_l1In.calls a1 1 8 false _ A7.out).mono ?_); rintro e w' ⟨rfl, ⟨nd, rfl⟩⟩; (try first | exact ⟨rfl, _, World.drewN_drewN _ _ _⟩ | exact ⟨rfl, _, Eq.trans (World.drewN_drewN _ _ _) (congrArg (World.drewN _) (Nat.add_assoc _ _ _))⟩))))
        go_meet
        case rel => exact ⟨_, (true), (by first | rfl | (simp; done) | (simp [*]; done)), H', ⟨by first | omega | exact Nat.le_refl _⟩, ⟨by repeat (first | (with_reducible first | exact HB.out | apply below_alloc | apply pw_below_drewN | apply below_drew1) | exact HB.out)⟩⟩
    · replace c6 := Bool.eq_false_iff.mpr c6
      subst c6
      have H1 : (spec_IsSchedule.j0 k l0 a1 l2 true) = some (r1, r2) := by rw [if_neg (show ¬ (false = true) by decide)] at H; exact H
      clear H
      have H := H1
      clear H1
      have H' := Aside0.mk H
      clear H
      go_wp2_with (first | (go_at_call 13; (with_reducible refine (spec_GoodPlan.calls k _ _ l0 false _ ?side1 ?side2 A5.out).mono ?_); (case side1 => repeat (first | exact (Kd.C_below HR0.out HB.out) | (with_reducible refine Kd.C_alloc ?_ _) | (with_reducible refine Kd.C_drewN ?_ _) | (with_reducible refine Kd.C_drew ?_))); (case side2 => exact HC0.out); rintro e w11 ⟨rfl, hb⟩; have n0_ := Aside0.mk (below_step (by repeat (first | (with_reducible first | exact HB.out | apply below_alloc | apply pw_below_drewN | apply below_drew1) | exact HB.out)) hb); clear HB; have HB := n0_; clear n0_; (try clear hb); (try clear hb2); (try clear hk); (try clear hi)))
      repeat (go_quiet (first | (go_at_call 13; (with_reducible refine (spec_GoodPlan.calls k _ _ l0 false _ ?side1 ?side2 A5.out).mono ?_); (case side1 => repeat (first | exact (Kd.C_below HR0.out HB.out) | (with_reducible refine Kd.C_alloc ?_ _) | (with_reducible refine Kd.C_drewN ?_ _) | (with_reducible refine Kd.C_drew ?_))); (case side2 => exact HC0.out); rintro e w11 ⟨rfl, hb⟩; have n0_ := Aside0.mk (below_step (by repeat (first | (with_reducible first | exact HB.out | apply below_alloc | apply pw_below_drewN | apply below_drew1) | exact HB.out)) hb); clear HB; have HB := n0_; clear n0_; (try clear hb); (try clear hb2); (try clear hk); (try clear hi))); try go_wp2_with (first | (go_at_call 13; (with_reducible refine (spec_GoodPlan.calls k _ _ l0 false _ ?side1 ?side2 A5.out).mono ?_); (case side1 => repeat (first | exact (Kd.C_below HR0.out HB.out) | (with_reducible refine Kd.C_alloc ?_ _) | (with_reducible refine Kd.C_drewN ?_ _) | (with_reducible refine Kd.C_drew ?_))); (case side2 => exact HC0.out); rintro e w11 ⟨rfl, hb⟩; have n0_ := Aside0.mk (below_step (by repeat (first | (with_reducible first | exact HB.out | apply below_alloc | apply pw_below_drewN | apply below_drew1) | exact HB.out)) hb); clear HB; have HB := n0_; clear n0_; (try clear hb); (try clear hb2); (try clear hk); (try clear hi))))
      go_meet
      case rel => exact ⟨_, (true), (by first | rfl | (simp; done) | (simp [*]; done)), H', ⟨by first | omega | exact Nat.le_refl _⟩, ⟨by repeat (first | (with_reducible first | exact HB.out | apply below_alloc | apply pw_below_drewN | apply below_drew1) | exact HB.out)⟩⟩
  case rest =>
    clear HC4
    try clear c2
    try clear p2
    try clear c3
    try clear c6
    try clear c8
    obtain ⟨kq, x30_3, rfl, HA, HJ3, HB⟩ := hcut
    cases kq with
    | zero => exact absurd HA.out (by simp [spec_IsSchedule.j0])
    | succ kj3 =>
      have H := HA.out
      clear HA
      simp only [spec_IsSchedule.j0] at H
      by_cases c12 : x30_3 = true
      · subst c12
        have H1 : (some (false, false)) = some (r1, r2) := by rw [if_pos rfl] at H; exact H
        clear H
        have H := H1
        clear H1
        simp only [Option.some.injEq, Prod.mk.injEq] at H
        obtain ⟨rfl, rfl⟩ := H
        go_wp2
        repeat (go_quiet (fail); try go_wp2)
        go_ret2
        exact ⟨by first | rfl | (simp [errW_none, errW_some] <;> rfl) | (simp [*, errW_none, errW_some] <;> rfl), by repeat (first | (with_reducible first | exact HB.out | apply below_alloc | apply pw_below_drewN | apply below_drew1) | exact HB.out)⟩
      · replace c12 := Bool.eq_false_iff.mpr c12
        subst c12
        have H1 : (if 0 ≤ (l0.length : Int) then (if ((l0.length : Int) : Int).toNat ≤ 35184372088832 then ((some (List.replicate ((l0.length : Int) : Int).toNat 0 : List Int)).bind fun y159 => (spec_IsSchedule.l0 kj3 l0 a1 l2 y159 (y159.length : Int) 0)) else (none)) else (none)) = some (r1, r2) := by rw [if_neg (show ¬ (false = true) by decide)] at H; exact H
        clear H
        have H := H1
        clear H1
        by_cases c13 : 0 ≤ (l0.length : Int)
        · rw [if_pos c13] at H
          have c13b0 := eq_true c13
          have c13b1 : decide (0 ≤ (l0.length : Int)) = true := decide_eq_true c13
          clear c13
          by_cases c14 : ((l0.length : Int) : Int).toNat ≤ 35184372088832
          · rw [if_pos c14] at H
            have c14b0 := eq_true c14
            have c14b1 : decide (((l0.length : Int) : Int).toNat ≤ 35184372088832) = true := decide_eq_true c14
            clear c14
            obtain ⟨y159, hy159⟩ : ∃ y_ : List Int, y_ = (List.replicate ((l0.length : Int) : Int).toNat 0) := ⟨_, rfl⟩
            replace H : (spec_IsSchedule.l0 kj3 l0 a1 l2 y159 (y159.length : Int) 0) = some (r1, r2) := by first | (rw [hy159]; with_reducible exact H) | (have H2_ := (Option.bind_some _ _).symm.trans H; rw [hy159]; with_reducible exact H2_) | (have H2_ := (Option.bind_some _ _).symm.trans H; with_reducible exact H2_) | with_reducible exact H | (rw [hy159]; exact H) | exact H
            have Ny159 := Aside0.mk hy159
            clear hy159
            have H' := Aside0.mk H
            clear H
            go_wp2_with (first | ((with_reducible refine gate_dst (N := 33) rfl ?_); (try (refine gate_guard (by rfl) ?_; dsimp only)); refine Kd.R_make (Kd.int .i64) _ 3 rfl (N := 33) rfl 29 _ _ rfl (l0.length : Int) rfl rfl Try.underlying29 (.int .i64 0) 8 info3 rfl (by decide) (by omega) 0 (ok := fun _ => True) (okp := fun _ => True) rfl (fun _ hk => hk) trivial (of_decide_eq_true (by first | (with_reducible assumption) | assumption)) (Nat.le_trans (Nat.mul_le_mul_right _ (of_decide_eq_true (by first | (with_reducible assumption) | assumption) : (l0.length : Int).toNat ≤ 35184372088832)) (by omega)) (Below.refl _ _) (Nat.le_refl _) ?_; intro v160 w15 ho16 hb hg_ hnew_; clear hg_ hnew_; (first | rw [← Ny159.out] at ho16 | (simp only [Int.reduceToNat] at ho16; rw [← Ny159.out] at ho16)); have n0_ := Aside0.mk (Kd.R_lower ho16 (below_size (by repeat (first | (with_reducible first | exact HB.out | apply below_alloc | apply pw_below_drewN | apply below_drew1) | exact HB.out)))); have n1_ := Aside0.mk (below_step (by repeat (first | (with_reducible first | exact HB.out | apply below_alloc | apply pw_below_drewN | apply below_drew1) | exact HB.out)) hb); clear HB; have HO161 := n0_; have HB := n1_; clear n0_ n1_; clear hb ho16; obtain ⟨Ao17, co17, eo17⟩ := Kd.R_slice HO161.out; subst eo17))
            repeat (go_quiet (first | ((with_reducible refine gate_dst (N := 33) rfl ?_); (try (refine gate_guard (by rfl) ?_; dsimp only)); refine Kd.R_make (Kd.int .i64) _ 3 rfl (N := 33) rfl 29 _ _ rfl (l0.length : Int) rfl rfl Try.underlying29 (.int .i64 0) 8 info3 rfl (by decide) (by omega) 0 (ok := fun _ => True) (okp := fun _ => True) rfl (fun _ hk => hk) trivial (of_decide_eq_true (by first | (with_reducible assumption) | assumption)) (Nat.le_trans (Nat.mul_le_mul_right _ (of_decide_eq_true (by first | (with_reducible assumption) | assumption) : (l0.length : Int).toNat ≤ 35184372088832)) (by omega)) (Below.refl _ _) (Nat.le_refl _) ?_; intro v160 w15 ho16 hb hg_ hnew_; clear hg_ hnew_; (first | rw [← Ny159.out] at ho16 | (simp only [Int.reduceToNat] at ho16; rw [← Ny159.out] at ho16)); have n0_ := Aside0.mk (Kd.R_lower ho16 (below_size (by repeat (first | (with_reducible first | exact HB.out | apply below_alloc | apply pw_below_drewN | apply below_drew1) | exact HB.out)))); have n1_ := Aside0.mk (below_step (by repeat (first | (with_reducible first | exact HB.out | apply below_alloc | apply pw_below_drewN | apply below_drew1) | exact HB.out)) hb); clear HB; have HO161 := n0_; have HB := n1_; clear n0_ n1_; clear hb ho16; obtain ⟨Ao17, co17, eo17⟩ := Kd.R_slice HO161.out; subst eo17)); try go_wp2_with (first | ((with_reducible refine gate_dst (N := 33) rfl ?_); (try (refine gate_guard (by rfl) ?_; dsimp only)); refine Kd.R_make (Kd.int .i64) _ 3 rfl (N := 33) rfl 29 _ _ rfl (l0.length : Int) rfl rfl Try.underlying29 (.int .i64 0) 8 info3 rfl (by decide) (by omega) 0 (ok := fun _ => True) (okp := fun _ => True) rfl (fun _ hk => hk) trivial (of_decide_eq_true (by first | (with_reducible assumption) | assumption)) (Nat.le_trans (Nat.mul_le_mul_right _ (of_decide_eq_true (by first | (with_reducible assumption) | assumption) : (l0.length : Int).toNat ≤ 35184372088832)) (by omega)) (Below.refl _ _) (Nat.le_refl _) ?_; intro v160 w15 ho16 hb hg_ hnew_; clear hg_ hnew_; (first | rw [← Ny159.out] at ho16 | (simp only [Int.reduceToNat] at ho16; rw [← Ny159.out] at ho16)); have n0_ := Aside0.mk (Kd.R_lower ho16 (below_size (by repeat (first | (with_reducible first | exact HB.out | apply below_alloc | apply pw_below_drewN | apply below_drew1) | exact HB.out)))); have n1_ := Aside0.mk (below_step (by repeat (first | (with_reducible first | exact HB.out | apply below_alloc | apply pw_below_drewN | apply below_drew1) | exact HB.out)) hb); clear HB; have HO161 := n0_; have HB := n1_; clear n0_ n1_; clear hb ho16; obtain ⟨Ao17, co17, eo17⟩ := Kd.R_slice HO161.out; subst eo17)))
            go_loopg [36] kj3 (fun kq v36 w' => ∃ (x8_2 : List Int) (x36_2 : Int), v36 = .int .i64 x36_2 ∧ Aside0 (spec_IsSchedule.l0 kq l0 a1 l2 x8_2 (y159.length : Int) x36_2 = some (r1, r2)) ∧ Aside0 (kq ≤ kj3) ∧ Aside0 (Kd.R (Kd.int .i64) 3 w' w.heap.size (fun _ => True) (.slice Ao17 y159.length co17) x8_2) ∧ Aside0 (Below w.heap.size w w'))
            case atStart => exact ⟨(y159), (0), (by first | rfl | (simp; done) | (simp [*]; done)), H', ⟨Nat.le_refl _⟩, ⟨by (with_reducible repeat (first | apply Kd.R_alloc | apply Kd.R_drewN | apply Kd.R_drew)); exact HO161.out⟩, ⟨by repeat (first | (with_reducible first | exact HB.out | apply below_alloc | apply pw_below_drewN | apply below_drew1) | exact HB.out)⟩⟩
            case round =>
              clear H'
              try clear c1
              try clear c2
              try clear p2
              try clear c3
              try clear c6
              try clear c8
              try clear c12
              try clear c13
              try clear c13b0
              try clear c13b1
              try clear c14
              try clear c14b0
              try clear c14b1
              try clear p2
              obtain ⟨x8_2, x36_2, rfl, HA, HK2, HO_8, HB⟩ := hrel
              have hl8_2 := (Kd.R_reads' HO_8.out).1
              rw [hl8_2] at HO_8
              (try simp only [hl8_2])
              cases gk with
              | zero => exact absurd HA.out (by simp [spec_IsSchedule.l0])
              | succ k2 =>
                have H := HA.out
                clear HA
                simp only [spec_IsSchedule.l0] at H
                by_cases c18 : x36_2 < (y159.length : Int)
                · rw [if_pos c18] at H
                  have c18b0 : decide (x36_2 < (y159.length : Int)) = true := decide_eq_true c18
                  clear c18
                  by_cases c19 : 0 ≤ x36_2
                  · rw [if_pos c19] at H
                    have c19b0 : decide (0 ≤ x36_2) = true := decide_eq_true c19
                    clear c19
                    by_cases c20 : x36_2 < (x8_2.length : Int)
                    · rw [if_pos c20] at H
                      have c20b0 : decide (x36_2 < (x8_2.length : Int)) = true := decide_eq_true c20
                      clear c20
                      obtain ⟨y162, hy162⟩ : ∃ y_ : List Int, y_ = (x8_2.set (x36_2 : Int).toNat (-1)) := ⟨_, rfl⟩
                      replace H : (spec_IsSchedule.l0 k2 l0 a1 l2 y162 (y159.length : Int) (wrap64 (x36_2 + 1))) = some (r1, r2) := by first | (rw [hy162]; with_reducible exact H) | (have H2_ := (Option.bind_some _ _).symm.trans H; rw [hy162]; with_reducible exact H2_) | (have H2_ := (Option.bind_some _ _).symm.trans H; with_reducible exact H2_) | with_reducible exact H | (rw [hy162]; exact H) | exact H
                      have Ny162 := Aside0.mk hy162
                      clear hy162
                      have H' := Aside0.mk H
                      clear H
                      have p21 : 0 ≤ (x36_2 : Int) := of_decide_eq_true (by first | (with_reducible assumption) | assumption)
                      have q21 : (x36_2 : Int) < ((x8_2.length : Int) : Int) := of_decide_eq_true (by first | (with_reducible assumption) | assumption)
                      obtain ⟨go21, co21, eo21, gb21, gl21, cl21, HG21⟩ := Kd.R_form HO_8.out (by omega)
                      (first | cases eo21 | (injection eo21 with ea_ en_ ec_; (first | subst ea_ | (injection ea_ with ea_; subst ea_)); subst ec_; clear en_))
                      have GB21 := Aside0.mk gb21
                      have GG21 := Aside0.mk HG21
                      clear gb21 gl21 HG21
                      obtain ⟨hx21_0, hf21_0⟩ := Kd.R_celln 0 HO_8.out (x36_2 : Int) p21 q21
                      replace p21 := eq_true p21
                      replace q21 := eq_true q21
                      have HP22 := Kd.R_putg HO_8.out (x36_2 : Int) (-1)
                      go_wp2_with (first | ((with_reducible refine gate_store (t := 3) (p := 41) rfl ?_); (try (rw [drewN_self wr]; generalize hq_ : World.drewN wr _ = wr; have n0_ := Aside0.mk (Kd.R_at hq_ HO_8.out); have n1_ := Aside0.mk (below_at hq_ HB.out); clear hq_ HO_8 HB; have HO_8 := n0_; have HB := n1_; clear n0_ n1_; (try (have HP22 := Kd.R_putg HO_8.out (x36_2 : Int) (-1))))); refine store_event (t := 3) (p := 41) (v := ?vo_w23) (w1 := (wr.setCell ⟨go21, (x36_2 : Int).toNat, none⟩ (.int .i64 (-1)))) ?hg ?ho ?hn ?hr ?_; (case ho => rfl); (case hg => rfl); (case hn => rfl); (case hr => first | (go_simp; done) | (go_simp; rfl)); intro w23 hw; have hg : wr.grownBy w23 (some go21) := (by rw [hw]; exact HP22.2); have hp_ : Kd.R (Kd.int .i64) 3 w23 w.heap.size (fun _ => True) (.slice (some ⟨go21, 0, none⟩) x8_2.length co17) y162 := (by rw [hw, Ny162.out]; exact HP22.1); clear HP22; have n0_ := Aside0.mk (hp_); have n1_ := Aside0.mk ((by rw [hw]; exact below_set (HB.out) GB21.out : Below w.heap.size w w23)); clear HO_8; clear HB; have HO_8 := n0_; have HB := n1_; clear n0_ n1_; clear hg hw hp_))
                      repeat (go_quiet (first | ((with_reducible refine gate_store (t := 3) (p := 41) rfl ?_); (try (rw [drewN_self wr]; generalize hq_ : World.drewN wr _ = wr; have n0_ := Aside0.mk (Kd.R_at hq_ HO_8.out); have n1_ := Aside0.mk (below_at hq_ HB.out); clear hq_ HO_8 HB; have HO_8 := n0_; have HB := n1_; clear n0_ n1_; (try (have HP22 := Kd.R_putg HO_8.out (x36_2 : Int) (-1))))); refine store_event (t := 3) (p := 41) (v := ?vo_w23) (w1 := (wr.setCell ⟨go21, (x36_2 : Int).toNat, none⟩ (.int .i64 (-1)))) ?hg ?ho ?hn ?hr ?_; (case ho => rfl); (case hg => rfl); (case hn => rfl); (case hr => first | (go_simp; done) | (go_simp; rfl)); intro w23 hw; have hg : wr.grownBy w23 (some go21) := (by rw [hw]; exact HP22.2); have hp_ : Kd.R (Kd.int .i64) 3 w23 w.heap.size (fun _ => True) (.slice (some ⟨go21, 0, none⟩) x8_2.length co17) y162 := (by rw [hw, Ny162.out]; exact HP22.1); clear HP22; have n0_ := Aside0.mk (hp_); have n1_ := Aside0.mk ((by rw [hw]; exact below_set (HB.out) GB21.out : Below w.heap.size w w23)); clear HO_8; clear HB; have HO_8 := n0_; have HB := n1_; clear n0_ n1_; clear hg hw hp_)); try go_wp2_with (first | ((with_reducible refine gate_store (t := 3) (p := 41) rfl ?_); (try (rw [drewN_self wr]; generalize hq_ : World.drewN wr _ = wr; have n0_ := Aside0.mk (Kd.R_at hq_ HO_8.out); have n1_ := Aside0.mk (below_at hq_ HB.out); clear hq_ HO_8 HB; have HO_8 := n0_; have HB := n1_; clear n0_ n1_; (try (have HP22 := Kd.R_putg HO_8.out (x36_2 : Int) (-1))))); refine store_event (t := 3) (p := 41) (v := ?vo_w23) (w1 := (wr.setCell ⟨go21, (x36_2 : Int).toNat, none⟩ (.int .i64 (-1)))) ?hg ?ho ?hn ?hr ?_; (case ho => rfl); (case hg => rfl); (case hn => rfl); (case hr => first | (go_simp; done) | (go_simp; rfl)); intro w23 hw; have hg : wr.grownBy w23 (some go21) := (by rw [hw]; exact HP22.2); have hp_ : Kd.R (Kd.int .i64) 3 w23 w.heap.size (fun _ => True) (.slice (some ⟨go21, 0, none⟩) x8_2.length co17) y162 := (by rw [hw, Ny162.out]; exact HP22.1); clear HP22; have n0_ := Aside0.mk (hp_); have n1_ := Aside0.mk ((by rw [hw]; exact below_set (HB.out) GB21.out : Below w.heap.size w w23)); clear HO_8; clear HB; have HO_8 := n0_; have HB := n1_; clear n0_ n1_; clear hg hw hp_)))
                      (try simp only [← hl8_2])
                      go_roundg k2
                      case measure => have := HJ3.out; have := HK2.out; omega
                      case rel => exact ⟨(y162), (wrap64 (x36_2 + 1)), (by first | rfl | (simp; done) | (simp [*]; done)), H', ⟨by have := HJ3.out; have := HK2.out; omega⟩, ⟨by (try simp only [hl8_2]); (with_reducible repeat (first | apply Kd.R_alloc | apply Kd.R_drewN | apply Kd.R_drew)); exact HO_8.out⟩, ⟨by repeat (first | (with_reducible first | exact HB.out | apply below_alloc | apply pw_below_drewN | apply below_drew1) | exact HB.out)⟩⟩
                    · rw [if_neg c20] at H
                      exact absurd H (by simp)
                  · rw [if_neg c19] at H
                    exact absurd H (by simp)
                · rw [if_neg c18] at H
                  have c18b0 : decide (x36_2 < (y159.length : Int)) = false := decide_eq_false c18
                  try (have c18b0q := c18b0; rw [hl8_2] at c18b0q)
                  clear c18
                  have H' := Aside0.mk H
                  clear H
                  go_wp2
                  repeat (go_quiet (fail); try go_wp2)
                  go_loopg [45] k2 (fun kq v45 w' => ∃ (x8_3 : List Int) (x45_3 : Int), v45 = .int .i64 x45_3 ∧ Aside0 (spec_IsSchedule.l1 kq l0 a1 l2 x8_3 l2 (l2.length : Int) x45_3 = some (r1, r2)) ∧ Aside0 (kq ≤ k2) ∧ Aside0 (Kd.R (Kd.int .i64) 3 w' w.heap.size (fun _ => True) (.slice Ao17 x8_2.length co17) x8_3) ∧ Aside0 (Below w.heap.size w w'))
                  case atStart => exact ⟨(x8_2), (0), (by first | rfl | (simp; done) | (simp [*]; done)), H', ⟨Nat.le_refl _⟩, ⟨by (try simp only [hl8_2]); (with_reducible repeat (first | apply Kd.R_alloc | apply Kd.R_drewN | apply Kd.R_drew)); exact HO_8.out⟩, ⟨by repeat (first | (with_reducible first | exact HB.out | apply below_alloc | apply pw_below_drewN | apply below_drew1) | exact HB.out)⟩⟩
                  case round =>
                    clear H'
                    try clear c1
                    try clear c2
                    try clear p2
                    try clear q2
                    try clear hx2
                    try clear c3
                    try clear c6
                    try clear p6
                    try clear c8
                    try clear c12
                    try clear c13
                    try clear c13b0
                    try clear c13b1
                    try clear c14
                    try clear c14b0
                    try clear c14b1
                    try clear c18
                    try clear c18b0
                    try clear c19
                    try clear c19b0
                    try clear c20
                    try clear c20b0
                    try clear p21
                    try clear q21
                    try clear hx21
                    try clear hf21
                    try clear hx21_0
                    try clear p2
                    try clear p21
                    try clear q21
                    obtain ⟨x8_3, x45_3, rfl, HA, HK3, HO_8, HB⟩ := hrel
                    have hl8_3 := (Kd.R_reads' HO_8.out).1
                    rw [hl8_3] at HO_8
                    (try simp only [hl8_3])
                    cases gk with
                    | zero => exact absurd HA.out (by simp [spec_IsSchedule.l1])
                    | succ k3 =>
                      have H := HA.out
                      clear HA
                      simp only [spec_IsSchedule.l1] at H
                      by_cases c24 : x45_3 < (l2.length : Int)
                      · rw [if_pos c24] at H
                        have c24b0 : decide (x45_3 < (l2.length : Int)) = true := decide_eq_true c24
                        clear c24
                        by_cases c25 : 0 ≤ x45_3
                        · rw [if_pos c25] at H
                          have c25b0 : decide (0 ≤ x45_3) = true := decide_eq_true c25
                          clear c25
                          by_cases c26 : x45_3 < (l2.length : Int)
                          · rw [if_pos c26] at H
                            have c26b0 : decide (x45_3 < (l2.length : Int)) = true := decide_eq_true c26
                            clear c26
                            have HC27 := Aside0.mk H
                            clear H
                            have p163 : 0 ≤ (x45_3 : Int) := of_decide_eq_true (by first | (with_reducible assumption) | assumption)
                            have q163 : x45_3 < (l2.length : Int) := of_decide_eq_true (by first | (with_reducible assumption) | assumption)
                            obtain ⟨ad163, e163, hx163_0, hx163_1, hx163_2⟩ := at_T66 HR2.out x45_3 p163 q163
                            cases e163
                            try replace hx163_0 := (HB.out.cell (World.block_lt_of_cell? w _ hx163_0)).trans hx163_0
                            try replace hx163_1 := (HB.out.cell (World.block_lt_of_cell? w _ hx163_1)).trans hx163_1
                            try replace hx163_2 := (HB.out.cell (World.block_lt_of_cell? w _ hx163_2)).trans hx163_2
                            replace p163 := eq_true p163
                            replace q163 := eq_true q163
                            go_upto_region 12 with (first | ((with_reducible refine gate_dst (N := 11) rfl ?_); (try (refine gate_guard (by rfl) ?_; dsimp only)); refine box_event ?hg (N := 11) ?hd (cs := #[.int .i64 0, .int .i64 0, .int .i64 0]) (t := 66) ?hr ?_; (case hd => rfl); (case hg => rfl); (case hr => first | (go_simp; done) | (go_simp; rfl)); intro gb164 hg w28 hbox hb; have n0_ := Aside0.mk (Kd.R_below (by (with_reducible repeat (first | apply Kd.R_alloc | apply Kd.R_drewN | apply Kd.R_drew)); exact HO_8.out) hb); have n1_ := Aside0.mk (below_step (by repeat (first | (with_reducible first | exact HB.out | apply below_alloc | apply pw_below_drewN | apply below_drew1) | exact HB.out)) hb); have n2_ := Aside0.mk (hbox); have n3_ := Aside0.mk ((by rw [hg]; exact (below_size (by repeat (first | (with_reducible first | exact HB.out | apply below_alloc | apply pw_below_drewN | apply below_drew1) | exact HB.out))) : w.heap.size ≤ gb164)); have n4_ := Aside0.mk ((by rw [hg]; exact (below_size (by repeat (first | (with_reducible first | exact HB.out | apply below_alloc | apply pw_below_drewN | apply below_drew1) | exact HB.out))) : w.heap.size ≤ gb164)); clear HO_8; clear HB; have HO_8 := n0_; have HB := n1_; have BK164 := n2_; have GW164 := n3_; have GE164 := n4_; clear n0_ n1_ n2_ n3_ n4_; clear hb hbox hg; have hcz29_0 : w28.cell? ⟨gb164, 0, none⟩ = some (.int .i64 0) := (blk_cell BK164.out 0).trans rfl; have hcz29_1 : w28.cell? ⟨gb164, 1, none⟩ = some (.int .i64 0) := (blk_cell BK164.out 1).trans rfl; have hcz29_2 : w28.cell? ⟨gb164, 2, none⟩ = some (.int .i64 0) := (blk_cell BK164.out 2).trans rfl; have hfz29_0 := blk_frozen BK164.out 0; have hfz29_1 := blk_frozen BK164.out 1; have hfz29_2 := blk_frozen BK164.out 2))
                            repeat (go_quiet (first | ((with_reducible refine gate_dst (N := 11) rfl ?_); (try (refine gate_guard (by rfl) ?_; dsimp only)); refine box_event ?hg (N := 11) ?hd (cs := #[.int .i64 0, .int .i64 0, .int .i64 0]) (t := 66) ?hr ?_; (case hd => rfl); (case hg => rfl); (case hr => first | (go_simp; done) | (go_simp; rfl)); intro gb164 hg w28 hbox hb; have n0_ := Aside0.mk (Kd.R_below (by (with_reducible repeat (first | apply Kd.R_alloc | apply Kd.R_drewN | apply Kd.R_drew)); exact HO_8.out) hb); have n1_ := Aside0.mk (below_step (by repeat (first | (with_reducible first | exact HB.out | apply below_alloc | apply pw_below_drewN | apply below_drew1) | exact HB.out)) hb); have n2_ := Aside0.mk (hbox); have n3_ := Aside0.mk ((by rw [hg]; exact (below_size (by repeat (first | (with_reducible first | exact HB.out | apply below_alloc | apply pw_below_drewN | apply below_drew1) | exact HB.out))) : w.heap.size ≤ gb164)); have n4_ := Aside0.mk ((by rw [hg]; exact (below_size (by repeat (first | (with_reducible first | exact HB.out | apply below_alloc | apply pw_below_drewN | apply below_drew1) | exact HB.out))) : w.heap.size ≤ gb164)); clear HO_8; clear HB; have HO_8 := n0_; have HB := n1_; have BK164 := n2_; have GW164 := n3_; have GE164 := n4_; clear n0_ n1_ n2_ n3_ n4_; clear hb hbox hg; have hcz29_0 : w28.cell? ⟨gb164, 0, none⟩ = some (.int .i64 0) := (blk_cell BK164.out 0).trans rfl; have hcz29_1 : w28.cell? ⟨gb164, 1, none⟩ = some (.int .i64 0) := (blk_cell BK164.out 1).trans rfl; have hcz29_2 : w28.cell? ⟨gb164, 2, none⟩ = some (.int .i64 0) := (blk_cell BK164.out 2).trans rfl; have hfz29_0 := blk_frozen BK164.out 0; have hfz29_1 := blk_frozen BK164.out 1; have hfz29_2 := blk_frozen BK164.out 2)); go_upto_region 12 with (first | ((with_reducible refine gate_dst (N := 11) rfl ?_); (try (refine gate_guard (by rfl) ?_; dsimp only)); refine box_event ?hg (N := 11) ?hd (cs := #[.int .i64 0, .int .i64 0, .int .i64 0]) (t := 66) ?hr ?_; (case hd => rfl); (case hg => rfl); (case hr => first | (go_simp; done) | (go_simp; rfl)); intro gb164 hg w28 hbox hb; have n0_ := Aside0.mk (Kd.R_below (by (with_reducible repeat (first | apply Kd.R_alloc | apply Kd.R_drewN | apply Kd.R_drew)); exact HO_8.out) hb); have n1_ := Aside0.mk (below_step (by repeat (first | (with_reducible first | exact HB.out | apply below_alloc | apply pw_below_drewN | apply below_drew1) | exact HB.out)) hb); have n2_ := Aside0.mk (hbox); have n3_ := Aside0.mk ((by rw [hg]; exact (below_size (by repeat (first | (with_reducible first | exact HB.out | apply below_alloc | apply pw_below_drewN | apply below_drew1) | exact HB.out))) : w.heap.size ≤ gb164)); have n4_ := Aside0.mk ((by rw [hg]; exact (below_size (by repeat (first | (with_reducible first | exact HB.out | apply below_alloc | apply pw_below_drewN | apply below_drew1) | exact HB.out))) : w.heap.size ≤ gb164)); clear HO_8; clear HB; have HO_8 := n0_; have HB := n1_; have BK164 := n2_; have GW164 := n3_; have GE164 := n4_; clear n0_ n1_ n2_ n3_ n4_; clear hb hbox hg; have hcz29_0 : w28.cell? ⟨gb164, 0, none⟩ = some (.int .i64 0) := (blk_cell BK164.out 0).trans rfl; have hcz29_1 : w28.cell? ⟨gb164, 1, none⟩ = some (.int .i64 0) := (blk_cell BK164.out 1).trans rfl; have hcz29_2 : w28.cell? ⟨gb164, 2, none⟩ = some (.int .i64 0) := (blk_cell BK164.out 2).trans rfl; have hfz29_0 := blk_frozen BK164.out 0; have hfz29_1 := blk_frozen BK164.out 1; have hfz29_2 := blk_frozen BK164.out 2)))
                            (try simp only [Act.put, List.setIfInBounds_toArray, List.set_cons_zero, List.set_cons_succ])
                            go_cut [78] (fun v78 wc => ∃ (kq : Nat) (x78_26 : Bool), v78 = .bool x78_26 ∧ Aside0 (spec_IsSchedule.j3 kq l0 a1 l2 x8_3 x45_3 l2 (l2.length : Int) x45_3 x78_26 ((rd_T66 l2 x45_3).f0) ((rd_T66 l2 x45_3).f1) ((rd_T66 l2 x45_3).f2) = some (r1, r2)) ∧ Aside0 (kq ≤ k3) ∧ Aside0 (Kd.R (Kd.int .i64) 3 wc w.heap.size (fun _ => True) (.slice Ao17 x8_3.length co17) x8_3) ∧ Aside0 (wc.heap[gb164]? = some (.cells #[.int .i64 ((rd_T66 l2 x45_3).f0), .int .i64 ((rd_T66 l2 x45_3).f1), .int .i64 ((rd_T66 l2 x45_3).f2)] 66 (0, 0))) ∧ Aside0 (Below w.heap.size w wc))
                            case first =>
                              have H := HC27.out
                              clear HC27
                              replace H := Option.bind_eq_some_iff.mp H
                              obtain ⟨t165, A300, H⟩ := H
                              replace H : (if t165 = true then ((spec_l1In.f ((rd_T66 l2 x45_3).f1) 0 (wrap64 (a1 - 1))).bind fun t166 => (if t166 = true then ((spec_l1In.f ((rd_T66 l2 x45_3).f2) 0 1000000).bind fun t167 => (if t167 = true then (if 0 ≤ ((rd_T66 l2 x45_3).f0) then (if ((rd_T66 l2 x45_3).f0) < (x8_3.length : Int) then (spec_IsSchedule.j3 k3 l0 a1 l2 x8_3 x45_3 l2 (l2.length : Int) x45_3 (decide ((rd x8_3 ((rd_T66 l2 x45_3).f0)) ≥ 0)) ((rd_T66 l2 x45_3).f0) ((rd_T66 l2 x45_3).f1) ((rd_T66 l2 x45_3).f2)) else (none)) else (none)) else (spec_IsSchedule.j3 k3 l0 a1 l2 x8_3 x45_3 l2 (l2.length : Int) x45_3 true ((rd_T66 l2 x45_3).f0) ((rd_T66 l2 x45_3).f1) ((rd_T66 l2 x45_3).f2)))) else (spec_IsSchedule.j3 k3 l0 a1 l2 x8_3 x45_3 l2 (l2.length : Int) x45_3 true ((rd_T66 l2 x45_3).f0) ((rd_T66 l2 x45_3).f1) ((rd_T66 l2 x45_3).f2)))) else (spec_IsSchedule.j3 k3 l0 a1 l2 x8_3 x45_3 l2 (l2.length : Int) x45_3 true ((rd_T66 l2 x45_3).f0) ((rd_T66 l2 x45_3).f1) ((rd_T66 l2 x45_3).f2))) = some (r1, r2) := H
                              have A30 := Aside0.mk A300
                              clear A300
                              by_cases c31 : t165 = true
                              · subst c31
                                have H1 : ((spec_l1In.f ((rd_T66 l2 x45_3).f1) 0 (wrap64 (a1 - 1))).bind fun t166 => (if t166 = true then ((spec_l1In.f ((rd_T66 l2 x45_3).f2) 0 1000000).bind fun t167 => (if t167 = true then (if 0 ≤ ((rd_T66 l2 x45_3).f0) then (if ((rd_T66 l2 x45_3).f0) < (x8_3.length : Int) then (spec_IsSchedule.j3 k3 l0 a1 l2 x8_3 x45_3 l2 (l2.length : Int) x45_3 (decide ((rd x8_3 ((rd_T66 l2 x45_3).f0)) ≥ 0)) ((rd_T66 l2 x45_3).f0) ((rd_T66 l2 x45_3).f1) ((rd_T66 l2 x45_3).f2)) else (none)) else (none)) else (spec_IsSchedule.j3 k3 l0 a1 l2 x8_3 x45_3 l2 (l2.length : Int) x45_3 true ((rd_T66 l2 x45_3).f0) ((rd_T66 l2 x45_3).f1) ((rd_T66 l2 x45_3).f2)))) else (spec_IsSchedule.j3 k3 l0 a1 l2 x8_3 x45_3 l2 (l2.length : Int) x45_3 true ((rd_T66 l2 x45_3).f0) ((rd_T66 l2 x45_3).f1) ((rd_T66 l2 x45_3).f2)))) = some (r1, r2) := by rw [if_pos rfl] at H; exact H
                                clear H
                                have H := H1
                                clear H1
                                replace H := Option.bind_eq_some_iff.mp H
                                obtain ⟨t166, A320, H⟩ := H
                                replace H : (if t166 = true then ((spec_l1In.f ((rd_T66 l2 x45_3).f2) 0 1000000).bind fun t167 => (if t167 = true then (if 0 ≤ ((rd_T66 l2 x45_3).f0) then (if ((rd_T66 l2 x45_3).f0) < (x8_3.length : Int) then (spec_IsSchedule.j3 k3 l0 a1 l2 x8_3 x45_3 l2 (l2.length : Int) x45_3 (decide ((rd x8_3 ((rd_T66 l2 x45_3).f0)) ≥ 0)) ((rd_T66 l2 x45_3).f0) ((rd_T66 l2 x45_3).f1) ((rd_T66 l2 x45_3).f2)) else (none)) else (none)) else (spec_IsSchedule.j3 k3 l0 a1 l2 x8_3 x45_3 l2 (l2.length : Int) x45_3 true ((rd_T66 l2 x45_3).f0) ((rd_T66 l2 x45_3).f1) ((rd_T66 l2 x45_3).f2)))) else (spec_IsSchedule.j3 k3 l0 a1 l2 x8_3 x45_3 l2 (l2.length : Int) x45_3 true ((rd_T66 l2 x45_3).f0) ((rd_T66 l2 x45_3).f1) ((rd_T66 l2 x45_3).f2))) = some (r1, r2) := H
                                have A32 := Aside0.mk A320
                                clear A320
                                by_cases c33 : t166 = true
                                · subst c33
                                  have H1 : ((spec_l1In.f ((rd_T66 l2 x45_3).f2) 0 1000000).bind fun t167 => (if t167 = true then (if 0 ≤ ((rd_T66 l2 x45_3).f0) then (if ((rd_T66 l2 x45_3).f0) < (x8_3.length : Int) then (spec_IsSchedule.j3 k3 l0 a1 l2 x8_3 x45_3 l2 (l2.length : Int) x45_3 (decide ((rd x8_3 ((rd_T66 l2 x45_3).f0)) ≥ 0)) ((rd_T66 l2 x45_3).f0) ((rd_T66 l2 x45_3).f1) ((rd_T66 l2 x45_3).f2)) else (none)) else (none)) else (spec_IsSchedule.j3 k3 l0 a1 l2 x8_3 x45_3 l2 (l2.length : Int) x45_3 true ((rd_T66 l2 x45_3).f0) ((rd_T66 l2 x45_3).f1) ((rd_T66 l2 x45_3).f2)))) = some (r1, r2) := by rw [if_pos rfl] at H; exact H
                                  clear H
                                  have H := H1
                                  clear H1
                                  replace H := Option.bind_eq_some_iff.mp H
                                  obtain ⟨t167, A340, H⟩ := H
                                  replace H : (if t167 = true then (if 0 ≤ ((rd_T66 l2 x45_3).f0) then (if ((rd_T66 l2 x45_3).f0) < (x8_3.length : Int) then (spec_IsSchedule.j3 k3 l0 a1 l2 x8_3 x45_3 l2 (l2.length : Int) x45_3 (decide ((rd x8_3 ((rd_T66 l2 x45_3).f0)) ≥ 0)) ((rd_T66 l2 x45_3).f0) ((rd_T66 l2 x45_3).f1) ((rd_T66 l2 x45_3).f2)) else (none)) else (none)) else (spec_IsSchedule.j3 k3 l0 a1 l2 x8_3 x45_3 l2 (l2.length : Int) x45_3 true ((rd_T66 l2 x45_3).f0) ((rd_T66 l2 x45_3).f1) ((rd_T66 l2 x45_3).f2))) = some (r1, r2) := H
                                  have A34 := Aside0.mk A340
                                  clear A340
                                  by_cases c35 : t167 = true
                                  · subst c35
                                    have H1 : (if 0 ≤ ((rd_T66 l2 x45_3).f0) then (if ((rd_T66 l2 x45_3).f0) < (x8_3.length : Int) then (spec_IsSchedule.j3 k3 l0 a1 l2 x8_3 x45_3 l2 (l2.length : Int) x45_3 (decide ((rd x8_3 ((rd_T66 l2 x45_3).f0)) ≥ 0)) ((rd_T66 l2 x45_3).f0) ((rd_T66 l2 x45_3).f1) ((rd_T66 l2 x45_3).f2)) else (none)) else (none)) = some (r1, r2) := by rw [if_pos rfl] at H; exact H
                                    clear H
                                    have H := H1
                                    clear H1
                                    by_cases c36 : 0 ≤ ((rd_T66 l2 x45_3).f0)
                                    · rw [if_pos c36] at H
                                      have c36b0 : decide (0 ≤ ((rd_T66 l2 x45_3).f0)) = true := decide_eq_true c36
                                      clear c36
                                      (first | rw [c36b0] | (simp only [i64_w, i32_w]; rw [c36b0]) | skip)
                                      by_cases c37 : ((rd_T66 l2 x45_3).f0) < (x8_3.length : Int)
                                      · rw [if_pos c37] at H
                                        have c37b0 : decide (((rd_T66 l2 x45_3).f0) < (x8_3.length : Int)) = true := decide_eq_true c37
                                        clear c37
                                        have H' := Aside0.mk H
                                        clear H
                                        have hcz38_0 : w28.cell? ⟨gb164, 0, none⟩ = some (.int .i64 0) := (blk_cell BK164.out 0).trans rfl
                                        have hcz38_1 : w28.cell? ⟨gb164, 1, none⟩ = some (.int .i64 0) := (blk_cell BK164.out 1).trans rfl
                                        have hcz38_2 : w28.cell? ⟨gb164, 2, none⟩ = some (.int .i64 0) := (blk_cell BK164.out 2).trans rfl
                                        have hfz38_0 := blk_frozen BK164.out 0
                                        have hfz38_1 := blk_frozen BK164.out 1
                                        have hfz38_2 := blk_frozen BK164.out 2
                                        go_wp2_with (first | (go_at_call 43; (with_reducible refine (spec_l1In.calls ((rd_T66 l2 x45_3).f0) 0 (wrap64 ((l0.length : Int) - 1)) true _ A30.out).mono ?_); rintro e w' ⟨rfl, ⟨nd, rfl⟩⟩; (try first | exact ⟨rfl, _, World.drewN_drewN _ _ _⟩ | exact ⟨rfl, _, Eq.trans (World.drewN_drewN _ _ _) (congrArg (World.drewN _) (Nat.add_assoc _ _ _))⟩)) | (go_at_call 43; (with_reducible refine (spec_l1In.calls ((rd_T66 l2 x45_3).f1) 0 (wrap64 (a1 - 1)) true _ A32.out).mono ?_); rintro e w' ⟨rfl, ⟨nd, rfl⟩⟩; (try first | exact ⟨rfl, _, World.drewN_drewN _ _ _⟩ | exact ⟨rfl, _, Eq.trans (World.drewN_drewN _ _ _) (congrArg (World.drewN _) (Nat.add_assoc _ _ _))⟩)) | (go_at_call 43; (with_reducible refine (spec_l1In.calls ((rd_T66 l2 x45_3).f2) 0 1000000 true _ A34.out).mono ?_); rintro e w' ⟨rfl, ⟨nd, rfl⟩⟩; (try first | exact ⟨rfl, _, World.drewN_drewN _ _ _⟩ | exact ⟨rfl, _, Eq.trans (World.drewN_drewN _ _ _) (congrArg (World.drewN _) (Nat.add_assoc _ _ _))⟩); have p168 : 0 ≤ (((rd_T66 l2 x45_3).f0) : Int) := of_decide_eq_true (by first | (with_reducible assumption) | assumption); have q168 : ((rd_T66 l2 x45_3).f0) < (x8_3.length : Int) := of_decide_eq_true (by first | (with_reducible assumption) | assumption); obtain ⟨ad168, e168, hx168_0⟩ := Kd.at_int (Kd.R_reads' HO_8.out).2.2 ((rd_T66 l2 x45_3).f0) p168 q168; cases e168; have hn168_0 : ad168.block ≠ gb164 := Kd.own_blk (Kd.R_ne HO_8.out BK164.out (by decide)); have hn168_1 : ad168.block ≠ gb164 := Kd.own_blk (Kd.R_ne HO_8.out BK164.out (by decide)); have hn168_2 : ad168.block ≠ gb164 := Kd.own_blk (Kd.R_ne HO_8.out BK164.out (by decide)); replace hx168_0 := (cell_far (p := ⟨gb164, 0, none⟩) (by first | (rw [add_block]; exact hn168_0) | (show (Addr.add _ _).block ≠ _; rw [add_block]; exact hn168_0) | exact hn168_0) (.int .i64 ((rd_T66 l2 x45_3).f0))).trans hx168_0; replace hx168_0 := (cell_far (p := ⟨gb164, 1, none⟩) (by first | (rw [add_block]; exact hn168_1) | (show (Addr.add _ _).block ≠ _; rw [add_block]; exact hn168_1) | exact hn168_1) (.int .i64 ((rd_T66 l2 x45_3).f1))).trans hx168_0; replace hx168_0 := (cell_far (p := ⟨gb164, 2, none⟩) (by first | (rw [add_block]; exact hn168_2) | (show (Addr.add _ _).block ≠ _; rw [add_block]; exact hn168_2) | exact hn168_2) (.int .i64 ((rd_T66 l2 x45_3).f2))).trans hx168_0; (try have hy168_0 := fun (n_ : Nat) => (show (((((w28.drewN n_).setCell ⟨gb164, 0, none⟩ (.int .i64 ((rd_T66 l2 x45_3).f0))).setCell ⟨gb164, 1, none⟩ (.int .i64 ((rd_T66 l2 x45_3).f1))).setCell ⟨gb164, 2, none⟩ (.int .i64 ((rd_T66 l2 x45_3).f2)))).cell? _ = some _ from hx168_0)); clear hn168_0; clear hn168_1; clear hn168_2; replace p168 := eq_true p168; replace q168 := eq_true q168))
                                        repeat (go_quiet (first | (go_at_call 43; (with_reducible refine (spec_l1In.calls ((rd_T66 l2 x45_3).f0) 0 (wrap64 ((l0.length : Int) - 1)) true _ A30.out).mono ?_); rintro e w' ⟨rfl, ⟨nd, rfl⟩⟩; (try first | exact ⟨rfl, _, World.drewN_drewN _ _ _⟩ | exact ⟨rfl, _, Eq.trans (World.drewN_drewN _ _ _) (congrArg (World.drewN _) (Nat.add_assoc _ _ _))⟩)) | (go_at_call 43; (with_reducible refine (spec_l1In.calls ((rd_T66 l2 x45_3).f1) 0 (wrap64 (a1 - 1)) true _ A32.out).mono ?_); rintro e w' ⟨rfl, ⟨nd, rfl⟩⟩; (try first | exact ⟨rfl, _, World.drewN_drewN _ _ _⟩ | exact ⟨rfl, _, Eq.trans (World.drewN_drewN _ _ _) (congrArg (World.drewN _) (Nat.add_assoc _ _ _))⟩)) | (go_at_call 43; (with_reducible refine (spec_l1In.calls ((rd_T66 l2 x45_3).f2) 0 1000000 true _ A34.out).mono ?_); rintro e w' ⟨rfl, ⟨nd, rfl⟩⟩; (try first | exact ⟨rfl, _, World.drewN_drewN _ _ _⟩ | exact ⟨rfl, _, Eq.trans (World.drewN_drewN _ _ _) (congrArg (World.drewN _) (Nat.add_assoc _ _ _))⟩); have p168 : 0 ≤ (((rd_T66 l2 x45_3).f0) : Int) := of_decide_eq_true (by first | (with_reducible assumption) | assumption); have q168 : ((rd_T66 l2 x45_3).f0) < (x8_3.length : Int) := of_decide_eq_true (by first | (with_reducible assumption) | assumption); obtain ⟨ad168, e168, hx168_0⟩ := Kd.at_int (Kd.R_reads' HO_8.out).2.2 ((rd_T66 l2 x45_3).f0) p168 q168; cases e168; have hn168_0 : ad168.block ≠ gb164 := Kd.own_blk (Kd.R_ne HO_8.out BK164.out (by decide)); have hn168_1 : ad168.block ≠ gb164 := Kd.own_blk (Kd.R_ne HO_8.out BK164.out (by decide)); have hn168_2 : ad168.block ≠ gb164 := Kd.own_blk (Kd.R_ne HO_8.out BK164.out (by decide)); replace hx168_0 := (cell_far (p := ⟨gb164, 0, none⟩) (by first | (rw [add_block]; exact hn168_0) | (show (Addr.add _ _).block ≠ _; rw [add_block]; exact hn168_0) | exact hn168_0) (.int .i64 ((rd_T66 l2 x45_3).f0))).trans hx168_0; replace hx168_0 := (cell_far (p := ⟨gb164, 1, none⟩) (by first | (rw [add_block]; exact hn168_1) | (show (Addr.add _ _).block ≠ _; rw [add_block]; exact hn168_1) | exact hn168_1) (.int .i64 ((rd_T66 l2 x45_3).f1))).trans hx168_0; replace hx168_0 := (cell_far (p := ⟨gb164, 2, none⟩) (by first | (rw [add_block]; exact hn168_2) | (show (Addr.add _ _).block ≠ _; rw [add_block]; exact hn168_2) | exact hn168_2) (.int .i64 ((rd_T66 l2 x45_3).f2))).trans hx168_0; (try have hy168_0 := fun (n_ : Nat) => (show (((((w28.drewN n_).setCell ⟨gb164, 0, none⟩ (.int .i64 ((rd_T66 l2 x45_3).f0))).setCell ⟨gb164, 1, none⟩ (.int .i64 ((rd_T66 l2 x45_3).f1))).setCell ⟨gb164, 2, none⟩ (.int .i64 ((rd_T66 l2 x45_3).f2)))).cell? _ = some _ from hx168_0)); clear hn168_0; clear hn168_1; clear hn168_2; replace p168 := eq_true p168; replace q168 := eq_true q168)); try go_wp2_with (first | (go_at_call 43; (with_reducible refine (spec_l1In.calls ((rd_T66 l2 x45_3).f0) 0 (wrap64 ((l0.length : Int) - 1)) true _ A30.out).mono ?_); rintro e w' ⟨rfl, ⟨nd, rfl⟩⟩; (try first | exact ⟨rfl, _, World.drewN_drewN _ _ _⟩ | exact ⟨rfl, _, Eq.trans (World.drewN_drewN _ _ _) (congrArg (World.drewN _) (Nat.add_assoc _ _ _))⟩)) | (go_at_call 43; (with_reducible refine (spec_l1In.calls ((rd_T66 l2 x45_3).f1) 0 (wrap64 (a1 - 1)) true _ A32.out).mono ?_); rintro e w' ⟨rfl, ⟨nd, rfl⟩⟩; (try first | exact ⟨rfl, _, World.drewN_drewN _ _ _⟩ | exact ⟨rfl, _, Eq.trans (World.drewN_drewN _ _ _) (congrArg (World.drewN _) (Nat.add_assoc _ _ _))⟩)) | (go_at_call 43; (with_reducible refine (spec_l1In.calls ((rd_T66 l2 x45_3).f2) 0 1000000 true _ A34.out).mono ?_); rintro e w' ⟨rfl, ⟨nd, rfl⟩⟩; (try first | exact ⟨rfl, _, World.drewN_drewN _ _ _⟩ | exact ⟨rfl, _, Eq.trans (World.drewN_drewN _ _ _) (congrArg (World.drewN _) (Nat.add_assoc _ _ _))⟩); have p168 : 0 ≤ (((rd_T66 l2 x45_3).f0) : Int) := of_decide_eq_true (by first | (with_reducible assumption) | assumption); have q168 : ((rd_T66 l2 x45_3).f0) < (x8_3.length : Int) := of_decide_eq_true (by first | (with_reducible assumption) | assumption); obtain ⟨ad168, e168, hx168_0⟩ := Kd.at_int (Kd.R_reads' HO_8.out).2.2 ((rd_T66 l2 x45_3).f0) p168 q168; cases e168; have hn168_0 : ad168.block ≠ gb164 := Kd.own_blk (Kd.R_ne HO_8.out BK164.out (by decide)); have hn168_1 : ad168.block ≠ gb164 := Kd.own_blk (Kd.R_ne HO_8.out BK164.out (by decide)); have hn168_2 : ad168.block ≠ gb164 := Kd.own_blk (Kd.R_ne HO_8.out BK164.out (by decide)); replace hx168_0 := (cell_far (p := ⟨gb164, 0, none⟩) (by first | (rw [add_block]; exact hn168_0) | (show (Addr.add _ _).block ≠ _; rw [add_block]; exact hn168_0) | exact hn168_0) (.int .i64 ((rd_T66 l2 x45_3).f0))).trans hx168_0; replace hx168_0 := (cell_far (p := ⟨gb164, 1, none⟩) (by first | (rw [add_block]; exact hn168_1) | (show (Addr.add _ _).block ≠ _; rw [add_block]; exact hn168_1) | exact hn168_1) (.int .i64 ((rd_T66 l2 x45_3).f1))).trans hx168_0; replace hx168_0 := (cell_far (p := ⟨gb164, 2, none⟩) (by first | (rw [add_block]; exact hn168_2) | (show (Addr.add _ _).block ≠ _; rw [add_block]; exact hn168_2) | exact hn168_2) (.int .i64 ((rd_T66 l2 x45_3).f2))).trans hx168_0; (try have hy168_0 := fun (n_ : Nat) => (show (((((w28.drewN n_).setCell ⟨gb164, 0, none⟩ (.int .i64 ((rd_T66 l2 x45_3).f0))).setCell ⟨gb164, 1, none⟩ (.int .i64 ((rd_T66 l2 x45_3).f1))).setCell ⟨gb164, 2, none⟩ (.int .i64 ((rd_T66 l2 x45_3).f2)))).cell? _ = some _ from hx168_0)); clear hn168_0; clear hn168_1; clear hn168_2; replace p168 := eq_true p168; replace q168 := eq_true q168)))
                                        go_meet
                                        case rel => exact ⟨_, (decide ((rd x8_3 ((rd_T66 l2 x45_3).f0)) ≥ 0)), (by first | rfl | (simp; done) | (simp [*]; done)), H', ⟨by have := HJ3.out; have := HK2.out; have := HK3.out; first | omega | exact Nat.le_refl _⟩, ⟨by (try simp only [hl8_2]); (try simp only [hl8_3]); (with_reducible repeat (first | apply Kd.R_alloc | apply Kd.R_drewN | apply Kd.R_drew)); exact Kd.R_mono (Kd.R_far (p := ⟨gb164, 2, none⟩) (Kd.R_far (p := ⟨gb164, 1, none⟩) (Kd.R_far (p := ⟨gb164, 0, none⟩) (Kd.R_types HO_8.out BK164.out (by decide)) (fun _ hk => hk.2) (.int .i64 ((rd_T66 l2 x45_3).f0))) (fun _ hk => hk.2) (.int .i64 ((rd_T66 l2 x45_3).f1))) (fun _ hk => hk.2) (.int .i64 ((rd_T66 l2 x45_3).f2))) (fun _ hk => trivial)⟩, ⟨by (try simp only [hl8_2]); (try simp only [hl8_3]); (with_reducible repeat (first | refine blk_drewN ?_ _ | refine blk_drew ?_ | refine blk_alloc ?_ _)); refine blk_put (cs := #[.int .i64 ((rd_T66 l2 x45_3).f0), .int .i64 ((rd_T66 l2 x45_3).f1), .int .i64 0]) ?_ 2 _ rfl; (with_reducible repeat (first | refine blk_drewN ?_ _ | refine blk_drew ?_ | refine blk_alloc ?_ _)); refine blk_put (cs := #[.int .i64 ((rd_T66 l2 x45_3).f0), .int .i64 0, .int .i64 0]) ?_ 1 _ rfl; (with_reducible repeat (first | refine blk_drewN ?_ _ | refine blk_drew ?_ | refine blk_alloc ?_ _)); refine blk_put (cs := #[.int .i64 0, .int .i64 0, .int .i64 0]) ?_ 0 _ rfl; (with_reducible repeat (first | refine blk_drewN ?_ _ | refine blk_drew ?_ | refine blk_alloc ?_ _)); exact BK164.out⟩, ⟨by repeat (first | (with_reducible first | exact HB.out | apply below_alloc | apply pw_below_drewN | apply below_drew1 | refine below_set ?_ GE164.out) | exact HB.out)⟩⟩
                                      · rw [if_neg c37] at H
                                        exact absurd H (by simp)
                                    · rw [if_neg c36] at H
                                      exact absurd H (by simp)
                                  · replace c35 := Bool.eq_false_iff.mpr c35
                                    subst c35
                                    have H1 : (spec_IsSchedule.j3 k3 l0 a1 l2 x8_3 x45_3 l2 (l2.length : Int) x45_3 true ((rd_T66 l2 x45_3).f0) ((rd_T66 l2 x45_3).f1) ((rd_T66 l2 x45_3).f2)) = some (r1, r2) := by rw [if_neg (show ¬ (false = true) by decide)] at H; exact H
                                    clear H
                                    have H := H1
                                    clear H1
                                    have H' := Aside0.mk H
                                    clear H
                                    have hcz39_0 : w28.cell? ⟨gb164, 0, none⟩ = some (.int .i64 0) := (blk_cell BK164.out 0).trans rfl
                                    have hcz39_1 : w28.cell? ⟨gb164, 1, none⟩ = some (.int .i64 0) := (blk_cell BK164.out 1).trans rfl
                                    have hcz39_2 : w28.cell? ⟨gb164, 2, none⟩ = some (.int .i64 0) := (blk_cell BK164.out 2).trans rfl
                                    have hfz39_0 := blk_frozen BK164.out 0
                                    have hfz39_1 := blk_frozen BK164.out 1
                                    have hfz39_2 := blk_frozen BK164.out 2
                                    go_wp2_with (first | (go_at_call 43; (with_reducible refine (spec_l1In.calls ((rd_T66 l2 x45_3).f0) 0 (wrap64 ((l0.length : Int) - 1)) true _ A30.out).mono ?_); rintro e w' ⟨rfl, ⟨nd, rfl⟩⟩; (try first | exact ⟨rfl, _, World.drewN_drewN _ _ _⟩ | exact ⟨rfl, _, Eq.trans (World.drewN_drewN _ _ _) (congrArg (World.drewN _) (Nat.add_assoc _ _ _))⟩)) | (go_at_call 43; (with_reducible refine (spec_l1In.calls ((rd_T66 l2 x45_3).f1) 0 (wrap64 (a1 - 1)) true _ A32.out).mono ?_); rintro e w' ⟨rfl, ⟨nd, rfl⟩⟩; (try first | exact ⟨rfl, _, World.drewN_drewN _ _ _⟩ | exact ⟨rfl, _, Eq.trans (World.drewN_drewN _ _ _) (congrArg (World.drewN _) (Nat.add_assoc _ _ _))⟩)) | (go_at_call 43; (with_reducible refine (spec_l1In.calls ((rd_T66 l2 x45_3).f2) 0 1000000 false _ A34.out).mono ?_); rintro e w' ⟨rfl, ⟨nd, rfl⟩⟩; (try first | exact ⟨rfl, _, World.drewN_drewN _ _ _⟩ | exact ⟨rfl, _, Eq.trans (World.drewN_drewN _ _ _) (congrArg (World.drewN _) (Nat.add_assoc _ _ _))⟩)))
                                    repeat (go_quiet (first | (go_at_call 43; (with_reducible refine (spec_l1In.calls ((rd_T66 l2 x45_3).f0) 0 (wrap64 ((l0.length : Int) - 1)) true _ A30.out).mono ?_); rintro e w' ⟨rfl, ⟨nd, rfl⟩⟩; (try first | exact ⟨rfl, _, World.drewN_drewN _ _ _⟩ | exact ⟨rfl, _, Eq.trans (World.drewN_drewN _ _ _) (congrArg (World.drewN _) (Nat.add_assoc _ _ _))⟩)) | (go_at_call 43; (with_reducible refine (spec_l1In.calls ((rd_T66 l2 x45_3).f1) 0 (wrap64 (a1 - 1)) true _ A32.out).mono ?_); rintro e w' ⟨rfl, ⟨nd, rfl⟩⟩; (try first | exact ⟨rfl, _, World.drewN_drewN _ _ _⟩ | exact ⟨rfl, _, Eq.trans (World.drewN_drewN _ _ _) (congrArg (World.drewN _) (Nat.add_assoc _ _ _))⟩)) | (go_at_call 43; (with_reducible refine (spec_l1In.calls ((rd_T66 l2 x45_3).f2) 0 1000000 false _ A34.out).mono ?_); rintro e w' ⟨rfl, ⟨nd, rfl⟩⟩; (try first | exact ⟨rfl, _, World.drewN_drewN _ _ _⟩ | exact ⟨rfl, _, Eq.trans (World.drewN_drewN _ _ _) (congrArg (World.drewN _) (Nat.add_assoc _ _ _))⟩))); try go_wp2_with (first | (go_at_call 43; (with_reducible refine (spec_l1In.calls ((rd_T66 l2 x45_3).f0) 0 (wrap64 ((l0.length : Int) - 1)) true _ A30.out).mono ?_); rintro e w' ⟨rfl, ⟨nd, rfl⟩⟩; (try first | exact ⟨rfl, _, World.drewN_drewN _ _ _⟩ | exact ⟨rfl, _, Eq.trans (World.drewN_drewN _ _ _) (congrArg (World.drewN _) (Nat.add_assoc _ _ _))⟩)) | (go_at_call 43; (with_reducible refine (spec_l1In.calls ((rd_T66 l2 x45_3).f1) 0 (wrap64 (a1 - 1)) true _ A32.out).mono ?_); rintro e w' ⟨rfl, ⟨nd, rfl⟩⟩; (try first | exact ⟨rfl, _, World.drewN_drewN _ _ _⟩ | exact ⟨rfl, _, Eq.trans (World.drewN_drewN _ _ _) (congrArg (World.drewN _) (Nat.add_assoc _ _ _))⟩)) | (go_at_call 43; (with_reducible refine (spec_l1In.calls ((rd_T66 l2 x45_3).f2) 0 1000000 false _ A34.out).mono ?_); rintro e w' ⟨rfl, ⟨nd, rfl⟩⟩; (try first | exact ⟨rfl, _, World.drewN_drewN _ _ _⟩ | exact ⟨rfl, _, Eq.trans (World.drewN_drewN _ _ _) (congrArg (World.drewN _) (Nat.add_assoc _ _ _))⟩))))
                                    go_meet
                                    case rel => exact ⟨_, (true), (by first | rfl | (simp; done) | (simp [*]; done)), H', ⟨by have := HJ3.out; have := HK2.out; have := HK3.out; first | omega | exact Nat.le_refl _⟩, ⟨by (try simp only [hl8_2]); (try simp only [hl8_3]); (with_reducible repeat (first | apply Kd.R_alloc | apply Kd.R_drewN | apply Kd.R_drew)); exact Kd.R_mono (Kd.R_far (p := ⟨gb164, 2, none⟩) (Kd.R_far (p := ⟨gb164, 1, none⟩) (Kd.R_far (p := ⟨gb164, 0, none⟩) (Kd.R_types HO_8.out BK164.out (by decide)) (fun _ hk => hk.2) (.int .i64 ((rd_T66 l2 x45_3).f0))) (fun _ hk => hk.2) (.int .i64 ((rd_T66 l2 x45_3).f1))) (fun _ hk => hk.2) (.int .i64 ((rd_T66 l2 x45_3).f2))) (fun _ hk => trivial)⟩, ⟨by (try simp only [hl8_2]); (try simp only [hl8_3]); (with_reducible repeat (first | refine blk_drewN ?_ _ | refine blk_drew ?_ | refine blk_alloc ?_ _)); refine blk_put (cs := #[.int .i64 ((rd_T66 l2 x45_3).f0), .int .i64 ((rd_T66 l2 x45_3).f1), .int .i64 0]) ?_ 2 _ rfl; (with_reducible repeat (first | refine blk_drewN ?_ _ | refine blk_drew ?_ | refine blk_alloc ?_ _)); refine blk_put (cs := #[.int .i64 ((rd_T66 l2 x45_3).f0), .int .i64 0, .int .i64 0]) ?_ 1 _ rfl; (with_reducible repeat (first | refine blk_drewN ?_ _ | refine blk_drew ?_ | refine blk_alloc ?_ _)); refine blk_put (cs := #[.int .i64 0, .int .i64 0, .int .i64 0]) ?_ 0 _ rfl; (with_reducible repeat (first | refine blk_drewN ?_ _ | refine blk_drew ?_ | refine blk_alloc ?_ _)); exact BK164.out⟩, ⟨by repeat (first | (with_reducible first | exact HB.out | apply below_alloc | apply pw_below_drewN | apply below_drew1 | refine below_set ?_ GE164.out) | exact HB.out)⟩⟩
                                · replace c33 := Bool.eq_false_iff.mpr c33
                                  subst c33
                                  have H1 : (spec_IsSchedule.j3 k3 l0 a1 l2 x8_3 x45_3 l2 (l2.length : Int) x45_3 true ((rd_T66 l2 x45_3).f0) ((rd_T66 l2 x45_3).f1) ((rd_T66 l2 x45_3).f2)) = some (r1, r2) := by rw [if_neg (show ¬ (false = true) by decide)] at H; exact H
                                  clear H
                                  have H := H1
                                  clear H1
                                  have H' := Aside0.mk H
                                  clear H
                                  have hcz40_0 : w28.cell? ⟨gb164, 0, none⟩ = some (.int .i64 0) := (blk_cell BK164.out 0).trans rfl
                                  have hcz40_1 : w28.cell? ⟨gb164, 1, none⟩ = some (.int .i64 0) := (blk_cell BK164.out 1).trans rfl
                                  have hcz40_2 : w28.cell? ⟨gb164, 2, none⟩ = some (.int .i64 0) := (blk_cell BK164.out 2).trans rfl
                                  have hfz40_0 := blk_frozen BK164.out 0
                                  have hfz40_1 := blk_frozen BK164.out 1
                                  have hfz40_2 := blk_frozen BK164.out 2
                                  go_wp2_with (first | (go_at_call 43; (with_reducible refine (spec_l1In.calls ((rd_T66 l2 x45_3).f0) 0 (wrap64 ((l0.length : Int) - 1)) true _ A30.out).mono ?_); rintro e w' ⟨rfl, ⟨nd, rfl⟩⟩; (try first | exact ⟨rfl, _, World.drewN_drewN _ _ _⟩ | exact ⟨rfl, _, Eq.trans (World.drewN_drewN _ _ _) (congrArg (World.drewN _) (Nat.add_assoc _ _ _))⟩)) | (go_at_call 43; (with_reducible refine (spec_l1In.calls ((rd_T66 l2 x45_3).f1) 0 (wrap64 (a1 - 1)) false _ A32.out).mono ?_); rintro e w' ⟨rfl, ⟨nd, rfl⟩⟩; (try first | exact ⟨rfl, _, World.drewN_drewN _ _ _⟩ | exact ⟨rfl, _, Eq.trans (World.drewN_drewN _ _ _) (congrArg (World.drewN _) (Nat.add_assoc _ _ _))⟩)))
                                  repeat (go_quiet (first | (go_at_call 43; (with_reducible refine (spec_l1In.calls ((rd_T66 l2 x45_3).f0) 0 (wrap64 ((l0.length : Int) - 1)) true _ A30.out).mono ?_); rintro e w' ⟨rfl, ⟨nd, rfl⟩⟩; (try first | exact ⟨rfl, _, World.drewN_drewN _ _ _⟩ | exact ⟨rfl, _, Eq.trans (World.drewN_drewN _ _ _) (congrArg (World.drewN _) (Nat.add_assoc _ _ _))⟩)) | (go_at_call 43; (with_reducible refine (spec_l1In.calls ((rd_T66 l2 x45_3).f1) 0 (wrap64 (a1 - 1)) false _ A32.out).mono ?_); rintro e w' ⟨rfl, ⟨nd, rfl⟩⟩; (try first | exact ⟨rfl, _, World.drewN_drewN _ _ _⟩ | exact ⟨rfl, _, Eq.trans (World.drewN_drewN _ _ _) (congrArg (World.drewN _) (Nat.add_assoc _ _ _))⟩))); try go_wp2_with (first | (go_at_call 43; (with_reducible refine (spec_l1In.calls ((rd_T66 l2 x45_3).f0) 0 (wrap64 ((l0.length : Int) - 1)) true _ A30.out).mono ?_); rintro e w' ⟨rfl, ⟨nd, rfl⟩⟩; (try first | exact ⟨rfl, _, World.drewN_drewN _ _ _⟩ | exact ⟨rfl, _, Eq.trans (World.drewN_drewN _ _ _) (congrArg (World.drewN _) (Nat.add_assoc _ _ _))⟩)) | (go_at_call 43; (with_reducible refine (spec_l1In.calls ((rd_T66 l2 x45_3).f1) 0 (wrap64 (a1 - 1)) false _ A32.out).mono ?_); rintro e w' ⟨rfl, ⟨nd, rfl⟩⟩; (try first | exact ⟨rfl, _, World.drewN_drewN _ _ _⟩ | exact ⟨rfl, _, Eq.trans (World.drewN_drewN _ _ _) (congrArg (World.drewN _) (Nat.add_assoc _ _ _))⟩))))
                                  go_meet
                                  case rel => exact ⟨_, (true), (by first | rfl | (simp; done) | (simp [*]; done)), H', ⟨by have := HJ3.out; have := HK2.out; have := HK3.out; first | omega | exact Nat.le_refl _⟩, ⟨by (try simp only [hl8_2]); (try simp only [hl8_3]); (with_reducible repeat (first | apply Kd.R_alloc | apply Kd.R_drewN | apply Kd.R_drew)); exact Kd.R_mono (Kd.R_far (p := ⟨gb164, 2, none⟩) (Kd.R_far (p := ⟨gb164, 1, none⟩) (Kd.R_far (p := ⟨gb164, 0, none⟩) (Kd.R_types HO_8.out BK164.out (by decide)) (fun _ hk => hk.2) (.int .i64 ((rd_T66 l2 x45_3).f0))) (fun _ hk => hk.2) (.int .i64 ((rd_T66 l2 x45_3).f1))) (fun _ hk => hk.2) (.int .i64 ((rd_T66 l2 x45_3).f2))) (fun _ hk => trivial)⟩, ⟨by (try simp only [hl8_2]); (try simp only [hl8_3]); (with_reducible repeat (first | refine blk_drewN ?_ _ | refine blk_drew ?_ | refine blk_alloc ?_ _)); refine blk_put (cs := #[.int .i64 ((rd_T66 l2 x45_3).f0), .int .i64 ((rd_T66 l2 x45_3).f1), .int .i64 0]) ?_ 2 _ rfl; (with_reducible repeat (first | refine blk_drewN ?_ _ | refine blk_drew ?_ | refine blk_alloc ?_ _)); refine blk_put (cs := #[.int .i64 ((rd_T66 l2 x45_3).f0), .int .i64 0, .int .i64 0]) ?_ 1 _ rfl; (with_reducible repeat (first | refine blk_drewN ?_ _ | refine blk_drew ?_ | refine blk_alloc ?_ _)); refine blk_put (cs := #[.int .i64 0, .int .i64 0, .int .i64 0]) ?_ 0 _ rfl; (with_reducible repeat (first | refine blk_drewN ?_ _ | refine blk_drew ?_ | refine blk_alloc ?_ _)); exact BK164.out⟩, ⟨by repeat (first | (with_reducible first | exact HB.out | apply below_alloc | apply pw_below_drewN | apply below_drew1 | refine below_set ?_ GE164.out) | exact HB.out)⟩⟩
                              · replace c31 := Bool.eq_false_iff.mpr c31
                                subst c31
                                have H1 : (spec_IsSchedule.j3 k3 l0 a1 l2 x8_3 x45_3 l2 (l2.length : Int) x45_3 true ((rd_T66 l2 x45_3).f0) ((rd_T66 l2 x45_3).f1) ((rd_T66 l2 x45_3).f2)) = some (r1, r2) := by rw [if_neg (show ¬ (false = true) by decide)] at H; exact H
                                clear H
                                have H := H1
                                clear H1
                                have H' := Aside0.mk H
                                clear H
                                have hcz41_0 : w28.cell? ⟨gb164, 0, none⟩ = some (.int .i64 0) := (blk_cell BK164.out 0).trans rfl
                                have hcz41_1 : w28.cell? ⟨gb164, 1, none⟩ = some (.int .i64 0) := (blk_cell BK164.out 1).trans rfl
                                have hcz41_2 : w28.cell? ⟨gb164, 2, none⟩ = some (.int .i64 0) := (blk_cell BK164.out 2).trans rfl
                                have hfz41_0 := blk_frozen BK164.out 0
                                have hfz41_1 := blk_frozen BK164.out 1
                                have hfz41_2 := blk_frozen BK164.out 2
                                go_wp2_with (first | (go_at_call 43; (with_reducible refine (spec_l1In.calls ((rd_T66 l2 x45_3).f0) 0 (wrap64 ((l0.length : Int) - 1)) false _ A30.out).mono ?_); rintro e w' ⟨rfl, ⟨nd, rfl⟩⟩; (try first | exact ⟨rfl, _, World.drewN_drewN _ _ _⟩ | exact ⟨rfl, _, Eq.trans (World.drewN_drewN _ _ _) (congrArg (World.drewN _) (Nat.add_assoc _ _ _))⟩)))
                                repeat (go_quiet (first | (go_at_call 43; (with_reducible refine (spec_l1In.calls ((rd_T66 l2 x45_3).f0) 0 (wrap64 ((l0.length : Int) - 1)) false _ A30.out).mono ?_); rintro e w' ⟨rfl, ⟨nd, rfl⟩⟩; (try first | exact ⟨rfl, _, World.drewN_drewN _ _ _⟩ | exact ⟨rfl, _, Eq.trans (World.drewN_drewN _ _ _) (congrArg (World.drewN _) (Nat.add_assoc _ _ _))⟩))); try go_wp2_with (first | (go_at_call 43; (with_reducible refine (spec_l1In.calls ((rd_T66 l2 x45_3).f0) 0 (wrap64 ((l0.length : Int) - 1)) false _ A30.out).mono ?_); rintro e w' ⟨rfl, ⟨nd, rfl⟩⟩; (try first | exact ⟨rfl, _, World.drewN_drewN _ _ _⟩ | exact ⟨rfl, _, Eq.trans (World.drewN_drewN _ _ _) (congrArg (World.drewN _) (Nat.add_assoc _ _ _))⟩))))
                                go_meet
                                case rel => exact ⟨_, (true), (by first | rfl | (simp; done) | (simp [*]; done)), H', ⟨by have := HJ3.out; have := HK2.out; have := HK3.out; first | omega | exact Nat.le_refl _⟩, ⟨by (try simp only [hl8_2]); (try simp only [hl8_3]); (with_reducible repeat (first | apply Kd.R_alloc | apply Kd.R_drewN | apply Kd.R_drew)); exact Kd.R_mono (Kd.R_far (p := ⟨gb164, 2, none⟩) (Kd.R_far (p := ⟨gb164, 1, none⟩) (Kd.R_far (p := ⟨gb164, 0, none⟩) (Kd.R_types HO_8.out BK164.out (by decide)) (fun _ hk => hk.2) (.int .i64 ((rd_T66 l2 x45_3).f0))) (fun _ hk => hk.2) (.int .i64 ((rd_T66 l2 x45_3).f1))) (fun _ hk => hk.2) (.int .i64 ((rd_T66 l2 x45_3).f2))) (fun _ hk => trivial)⟩, ⟨by (try simp only [hl8_2]); (try simp only [hl8_3]); (with_reducible repeat (first | refine blk_drewN ?_ _ | refine blk_drew ?_ | refine blk_alloc ?_ _)); refine blk_put (cs := #[.int .i64 ((rd_T66 l2 x45_3).f0), .int .i64 ((rd_T66 l2 x45_3).f1), .int .i64 0]) ?_ 2 _ rfl; (with_reducible repeat (first | refine blk_drewN ?_ _ | refine blk_drew ?_ | refine blk_alloc ?_ _)); refine blk_put (cs := #[.int .i64 ((rd_T66 l2 x45_3).f0), .int .i64 0, .int .i64 0]) ?_ 1 _ rfl; (with_reducible repeat (first | refine blk_drewN ?_ _ | refine blk_drew ?_ | refine blk_alloc ?_ _)); refine blk_put (cs := #[.int .i64 0, .int .i64 0, .int .i64 0]) ?_ 0 _ rfl; (with_reducible repeat (first | refine blk_drewN ?_ _ | refine blk_drew ?_ | refine blk_alloc ?_ _)); exact BK164.out⟩, ⟨by repeat (first | (with_reducible first | exact HB.out | apply below_alloc | apply pw_below_drewN | apply below_drew1 | refine below_set ?_ GE164.out) | exact HB.out)⟩⟩
                            case rest =>
                              clear HC27
                              try clear c1
                              try clear p1
                              try clear q1
                              try clear hx1
                              try clear c2
                              try clear p2
                              try clear q2
                              try clear hx2
                              try clear c3
                              try clear c6
                              try clear p6
                              try clear c8
                              try clear c12
                              try clear c13
                              try clear c13b0
                              try clear c13b1
                              try clear c14
                              try clear c14b0
                              try clear c14b1
                              try clear p16
                              try clear q16
                              try clear hx16
                              try clear c18
                              try clear c18b0
                              try clear c19
                              try clear c19b0
                              try clear c20
                              try clear c20b0
                              try clear p21
                              try clear q21
                              try clear hx21
                              try clear hf21
                              try clear c24
                              try clear c24b0
                              try clear c25
                              try clear c25b0
                              try clear c26
                              try clear c26b0
                              try clear c31
                              try clear c33
                              try clear c34
                              try clear c35
                              try clear c36
                              try clear c36b0
                              try clear c37
                              try clear c37b0
                              try clear hcz29_0
                              try clear hcz29_1
                              try clear hcz29_2
                              try clear hcz38_0
                              try clear hcz38_1
                              try clear hcz38_2
                              try clear hcz39_0
                              try clear hcz39_1
                              try clear hcz39_2
                              try clear hcz40_0
                              try clear hcz40_1
                              try clear hcz40_2
                              try clear hcz41_0
                              try clear hcz41_1
                              try clear hcz41_2
                              try clear hfz29_0
                              try clear hfz29_1
                              try clear hfz29_2
                              try clear hfz38_0
                              try clear hfz38_1
                              try clear hfz38_2
                              try clear hfz39_0
                              try clear hfz39_1
                              try clear hfz39_2
                              try clear hfz40_0
                              try clear hfz40_1
                              try clear hfz40_2
                              try clear hfz41_0
                              try clear hfz41_1
                              try clear hfz41_2
                              try clear hx163_0
                              try clear hx163_1
                              try clear hx163_2
                              try clear hx168_0
                              try clear hx21_0
                              try clear p163
                              try clear p168
                              try clear p2
                              try clear p21
                              try clear p6
                              try clear q163
                              try clear q168
                              try clear q2
                              try clear q21
                              obtain ⟨kq, x78_26, rfl, HA, HJ26, HO_8, BK164, HB⟩ := hcut
                              cases kq with
                              | zero => exact absurd HA.out (by simp [spec_IsSchedule.j3])
                              | succ kj26 =>
                                have H := HA.out
                                clear HA
                                simp only [spec_IsSchedule.j3] at H
                                by_cases c42 : x78_26 = true
                                · subst c42
                                  have H1 : (some (false, true)) = some (r1, r2) := by rw [if_pos rfl] at H; exact H
                                  clear H
                                  have H := H1
                                  clear H1
                                  simp only [Option.some.injEq, Prod.mk.injEq] at H
                                  obtain ⟨rfl, rfl⟩ := H
                                  go_wp2
                                  repeat (go_quiet (fail); try go_wp2)
                                  go_ret2
                                  exact ⟨by first | rfl | (simp [errW_none, errW_some] <;> rfl) | (simp [*, errW_none, errW_some] <;> rfl), by repeat (first | (with_reducible first | exact HB.out | apply below_alloc | apply pw_below_drewN | apply below_drew1 | refine below_set ?_ GE164.out) | exact HB.out)⟩
                                · replace c42 := Bool.eq_false_iff.mpr c42
                                  subst c42
                                  have H1 : (if 0 ≤ ((rd_T66 l2 x45_3).f0) then (if ((rd_T66 l2 x45_3).f0) < (x8_3.length : Int) then (if 0 ≤ x45_3 then (if x45_3 ≤ (l2.length : Int) then ((some (l2.take (x45_3 : Int).toNat : List (S66))).bind fun y170 => (spec_IsSchedule.l2 kj26 l0 a1 l2 (x8_3.set (((rd_T66 l2 x45_3).f0) : Int).toNat ((rd_T66 l2 x45_3).f2)) l2 (l2.length : Int) x45_3 y170 (y170.length : Int) 0 ((rd_T66 l2 x45_3).f0) ((rd_T66 l2 x45_3).f1) ((rd_T66 l2 x45_3).f2))) else (none)) else (none)) else (none)) else (none)) = some (r1, r2) := by rw [if_neg (show ¬ (false = true) by decide)] at H; exact H
                                  clear H
                                  have H := H1
                                  clear H1
                                  by_cases c43 : 0 ≤ ((rd_T66 l2 x45_3).f0)
                                  · rw [if_pos c43] at H
                                    have c43b0 : decide (0 ≤ ((rd_T66 l2 x45_3).f0)) = true := decide_eq_true c43
                                    clear c43
                                    by_cases c44 : ((rd_T66 l2 x45_3).f0) < (x8_3.length : Int)
                                    · rw [if_pos c44] at H
                                      have c44b0 : decide (((rd_T66 l2 x45_3).f0) < (x8_3.length : Int)) = true := decide_eq_true c44
                                      clear c44
                                      obtain ⟨y169, hy169⟩ : ∃ y_ : List Int, y_ = (x8_3.set (((rd_T66 l2 x45_3).f0) : Int).toNat ((rd_T66 l2 x45_3).f2)) := ⟨_, rfl⟩
                                      replace H : (if 0 ≤ x45_3 then (if x45_3 ≤ (l2.length : Int) then ((some (l2.take (x45_3 : Int).toNat : List (S66))).bind fun y170 => (spec_IsSchedule.l2 kj26 l0 a1 l2 y169 l2 (l2.length : Int) x45_3 y170 (y170.length : Int) 0 ((rd_T66 l2 x45_3).f0) ((rd_T66 l2 x45_3).f1) ((rd_T66 l2 x45_3).f2))) else (none)) else (none)) = some (r1, r2) := by first | (rw [hy169]; with_reducible exact H) | (have H2_ := (Option.bind_some _ _).symm.trans H; rw [hy169]; with_reducible exact H2_) | (have H2_ := (Option.bind_some _ _).symm.trans H; with_reducible exact H2_) | with_reducible exact H | (rw [hy169]; exact H) | exact H
                                      have Ny169 := Aside0.mk hy169
                                      clear hy169
                                      by_cases c46 : 0 ≤ x45_3
                                      · rw [if_pos c46] at H
                                        have c46b0 := eq_true c46
                                        have c46b1 : decide (0 ≤ x45_3) = true := decide_eq_true c46
                                        clear c46
                                        by_cases c47 : x45_3 ≤ (l2.length : Int)
                                        · rw [if_pos c47] at H
                                          have c47b0 := eq_true c47
                                          have c47b1 : decide (x45_3 ≤ (l2.length : Int)) = true := decide_eq_true c47
                                          clear c47
                                          obtain ⟨y170, hy170⟩ : ∃ y_ : List (S66), y_ = (l2.take (x45_3 : Int).toNat) := ⟨_, rfl⟩
                                          replace H : (spec_IsSchedule.l2 kj26 l0 a1 l2 y169 l2 (l2.length : Int) x45_3 y170 (y170.length : Int) 0 ((rd_T66 l2 x45_3).f0) ((rd_T66 l2 x45_3).f1) ((rd_T66 l2 x45_3).f2)) = some (r1, r2) := by first | (rw [hy170]; with_reducible exact H) | (have H2_ := (Option.bind_some _ _).symm.trans H; rw [hy170]; with_reducible exact H2_) | (have H2_ := (Option.bind_some _ _).symm.trans H; with_reducible exact H2_) | with_reducible exact H | (rw [hy170]; exact H) | exact H
                                          have Ny170 := Aside0.mk hy170
                                          clear hy170
                                          have H' := Aside0.mk H
                                          clear H
                                          have hcz48_0 : wc.cell? ⟨gb164, 0, none⟩ = some (.int .i64 ((rd_T66 l2 x45_3).f0)) := (blk_cell BK164.out 0).trans rfl
                                          have hcz48_1 : wc.cell? ⟨gb164, 1, none⟩ = some (.int .i64 ((rd_T66 l2 x45_3).f1)) := (blk_cell BK164.out 1).trans rfl
                                          have hcz48_2 : wc.cell? ⟨gb164, 2, none⟩ = some (.int .i64 ((rd_T66 l2 x45_3).f2)) := (blk_cell BK164.out 2).trans rfl
                                          have hfz48_0 := blk_frozen BK164.out 0
                                          have hfz48_1 := blk_frozen BK164.out 1
                                          have hfz48_2 := blk_frozen BK164.out 2
                                          have p45 : 0 ≤ (((rd_T66 l2 x45_3).f0) : Int) := of_decide_eq_true (by first | (with_reducible assumption) | assumption)
                                          have q45 : (((rd_T66 l2 x45_3).f0) : Int) < ((x8_3.length : Int) : Int) := of_decide_eq_true (by first | (with_reducible assumption) | assumption)
                                          obtain ⟨go45, co45, eo45, gb45, gl45, cl45, HG45⟩ := Kd.R_form HO_8.out (by omega)
                                          (first | cases eo45 | (injection eo45 with ea_ en_ ec_; (first | subst ea_ | (injection ea_ with ea_; subst ea_)); subst ec_; clear en_))
                                          have GB45 := Aside0.mk gb45
                                          have GG45 := Aside0.mk HG45
                                          clear gb45 gl45 HG45
                                          obtain ⟨hx45_0, hf45_0⟩ := Kd.R_celln 0 HO_8.out (((rd_T66 l2 x45_3).f0) : Int) p45 q45
                                          replace p45 := eq_true p45
                                          replace q45 := eq_true q45
                                          have HP49 := Kd.R_putg HO_8.out (((rd_T66 l2 x45_3).f0) : Int) ((rd_T66 l2 x45_3).f2)
                                          go_wp2_with (first | ((with_reducible refine gate_store (t := 3) (p := 84) rfl ?_); (try (rw [drewN_self wc]; generalize hq_ : World.drewN wc _ = wc; have n0_ := Aside0.mk (Kd.R_at hq_ HO_8.out); have n1_ := Aside0.mk (blk_at hq_ BK164.out); have n2_ := Aside0.mk (below_at hq_ HB.out); clear hq_ HO_8 BK164 HB; have HO_8 := n0_; have BK164 := n1_; have HB := n2_; clear n0_ n1_ n2_; (try (have HP49 := Kd.R_putg HO_8.out (((rd_T66 l2 x45_3).f0) : Int) ((rd_T66 l2 x45_3).f2))))); refine store_event (t := 3) (p := 84) (v := ?vo_w50) (w1 := (wc.setCell ⟨go45, (((rd_T66 l2 x45_3).f0) : Int).toNat, none⟩ (.int .i64 ((rd_T66 l2 x45_3).f2)))) ?hg ?ho ?hn ?hr ?_; (case ho => rfl); (case hg => rfl); (case hn => rfl); (case hr => first | (go_simp; done) | (go_simp; rfl)); intro w50 hw; have hg : wc.grownBy w50 (some go45) := (by rw [hw]; exact HP49.2); have hp_ : Kd.R (Kd.int .i64) 3 w50 w.heap.size (fun _ => True) (.slice (some ⟨go45, 0, none⟩) x8_3.length co17) y169 := (by rw [hw, Ny169.out]; exact HP49.1); clear HP49; have n0_ := Aside0.mk (hp_); have n1_ := Aside0.mk (blk_grown (g := gb164) (o := .cells #[.int .i64 ((rd_T66 l2 x45_3).f0), .int .i64 ((rd_T66 l2 x45_3).f1), .int .i64 ((rd_T66 l2 x45_3).f2)] 66 (0, 0)) (by (with_reducible repeat (first | refine blk_drewN ?_ _ | refine blk_drew ?_ | refine blk_alloc ?_ _)); exact BK164.out) hg (Kd.R_ne HO_8.out BK164.out (by decide))); have n2_ := Aside0.mk ((by rw [hw]; exact below_set (HB.out) GB45.out : Below w.heap.size w w50)); clear HO_8; clear BK164; clear HB; have HO_8 := n0_; have BK164 := n1_; have HB := n2_; clear n0_ n1_ n2_; clear hg hw hp_; have q51 : (x45_3 : Int) ≤ ((l2.length : Int) : Int) := of_decide_eq_true (by first | (with_reducible assumption) | assumption); obtain ⟨i051, hi051, _, hsz51, _⟩ := info_parts info66; have hroom51 : l2.length ≤ c2 := HC2.out; have hC51 : Kd.C k66 _ (some ad163) l2.length l2 := HR2.out; have hcut51 := cut_to (P := Try.prog) 43 66 .i64 Try.underlying43 hi051 (some ad163) l2.length c2 x45_3 (of_decide_eq_true (by first | (with_reducible assumption) | assumption)) q51 hroom51; have hr51 := Kd.C_take (m := (x45_3 : Int).toNat) hC51 (by omega); have hy51 : y170.length = (x45_3 : Int).toNat := (by rw [Ny170.out, List.length_take]; omega); rw [← Ny170.out] at hr51; rw [← hy51] at hcut51; have HR173 := Aside0.mk hr51; have HC173 := Aside0.mk (show y170.length ≤ c2 from by omega); clear hr51 hC51 hroom51 hi051 hsz51; have KY51 := Aside0.mk hy51; clear hy51; replace q51 := eq_true q51))
                                          repeat (go_quiet (first | ((with_reducible refine gate_store (t := 3) (p := 84) rfl ?_); (try (rw [drewN_self wc]; generalize hq_ : World.drewN wc _ = wc; have n0_ := Aside0.mk (Kd.R_at hq_ HO_8.out); have n1_ := Aside0.mk (blk_at hq_ BK164.out); have n2_ := Aside0.mk (below_at hq_ HB.out); clear hq_ HO_8 BK164 HB; have HO_8 := n0_; have BK164 := n1_; have HB := n2_; clear n0_ n1_ n2_; (try (have HP49 := Kd.R_putg HO_8.out (((rd_T66 l2 x45_3).f0) : Int) ((rd_T66 l2 x45_3).f2))))); refine store_event (t := 3) (p := 84) (v := ?vo_w50) (w1 := (wc.setCell ⟨go45, (((rd_T66 l2 x45_3).f0) : Int).toNat, none⟩ (.int .i64 ((rd_T66 l2 x45_3).f2)))) ?hg ?ho ?hn ?hr ?_; (case ho => rfl); (case hg => rfl); (case hn => rfl); (case hr => first | (go_simp; done) | (go_simp; rfl)); intro w50 hw; have hg : wc.grownBy w50 (some go45) := (by rw [hw]; exact HP49.2); have hp_ : Kd.R (Kd.int .i64) 3 w50 w.heap.size (fun _ => True) (.slice (some ⟨go45, 0, none⟩) x8_3.length co17) y169 := (by rw [hw, Ny169.out]; exact HP49.1); clear HP49; have n0_ := Aside0.mk (hp_); have n1_ := Aside0.mk (blk_grown (g := gb164) (o := .cells #[.int .i64 ((rd_T66 l2 x45_3).f0), .int .i64 ((rd_T66 l2 x45_3).f1), .int .i64 ((rd_T66 l2 x45_3).f2)] 66 (0, 0)) (by (with_reducible repeat (first | refine blk_drewN ?_ _ | refine blk_drew ?_ | refine blk_alloc ?_ _)); exact BK164.out) hg (Kd.R_ne HO_8.out BK164.out (by decide))); have n2_ := Aside0.mk ((by rw [hw]; exact below_set (HB.out) GB45.out : Below w.heap.size w w50)); clear HO_8; clear BK164; clear HB; have HO_8 := n0_; have BK164 := n1_; have HB := n2_; clear n0_ n1_ n2_; clear hg hw hp_; have q51 : (x45_3 : Int) ≤ ((l2.length : Int) : Int) := of_decide_eq_true (by first | (with_reducible assumption) | assumption); obtain ⟨i051, hi051, _, hsz51, _⟩ := info_parts info66; have hroom51 : l2.length ≤ c2 := HC2.out; have hC51 : Kd.C k66 _ (some ad163) l2.length l2 := HR2.out; have hcut51 := cut_to (P := Try.prog) 43 66 .i64 Try.underlying43 hi051 (some ad163) l2.length c2 x45_3 (of_decide_eq_true (by first | (with_reducible assumption) | assumption)) q51 hroom51; have hr51 := Kd.C_take (m := (x45_3 : Int).toNat) hC51 (by omega); have hy51 : y170.length = (x45_3 : Int).toNat := (by rw [Ny170.out, List.length_take]; omega); rw [← Ny170.out] at hr51; rw [← hy51] at hcut51; have HR173 := Aside0.mk hr51; have HC173 := Aside0.mk (show y170.length ≤ c2 from by omega); clear hr51 hC51 hroom51 hi051 hsz51; have KY51 := Aside0.mk hy51; clear hy51; replace q51 := eq_true q51)); try go_wp2_with (first | ((with_reducible refine gate_store (t := 3) (p := 84) rfl ?_); (try (rw [drewN_self wc]; generalize hq_ : World.drewN wc _ = wc; have n0_ := Aside0.mk (Kd.R_at hq_ HO_8.out); have n1_ := Aside0.mk (blk_at hq_ BK164.out); have n2_ := Aside0.mk (below_at hq_ HB.out); clear hq_ HO_8 BK164 HB; have HO_8 := n0_; have BK164 := n1_; have HB := n2_; clear n0_ n1_ n2_; (try (have HP49 := Kd.R_putg HO_8.out (((rd_T66 l2 x45_3).f0) : Int) ((rd_T66 l2 x45_3).f2))))); refine store_event (t := 3) (p := 84) (v := ?vo_w50) (w1 := (wc.setCell ⟨go45, (((rd_T66 l2 x45_3).f0) : Int).toNat, none⟩ (.int .i64 ((rd_T66 l2 x45_3).f2)))) ?hg ?ho ?hn ?hr ?_; (case ho => rfl); (case hg => rfl); (case hn => rfl); (case hr => first | (go_simp; done) | (go_simp; rfl)); intro w50 hw; have hg : wc.grownBy w50 (some go45) := (by rw [hw]; exact HP49.2); have hp_ : Kd.R (Kd.int .i64) 3 w50 w.heap.size (fun _ => True) (.slice (some ⟨go45, 0, none⟩) x8_3.length co17) y169 := (by rw [hw, Ny169.out]; exact HP49.1); clear HP49; have n0_ := Aside0.mk (hp_); have n1_ := Aside0.mk (blk_grown (g := gb164) (o := .cells #[.int .i64 ((rd_T66 l2 x45_3).f0), .int .i64 ((rd_T66 l2 x45_3).f1), .int .i64 ((rd_T66 l2 x45_3).f2)] 66 (0, 0)) (by (with_reducible repeat (first | refine blk_drewN ?_ _ | refine blk_drew ?_ | refine blk_alloc ?_ _)); exact BK164.out) hg (Kd.R_ne HO_8.out BK164.out (by decide))); have n2_ := Aside0.mk ((by rw [hw]; exact below_set (HB.out) GB45.out : Below w.heap.size w w50)); clear HO_8; clear BK164; clear HB; have HO_8 := n0_; have BK164 := n1_; have HB := n2_; clear n0_ n1_ n2_; clear hg hw hp_; have q51 : (x45_3 : Int) ≤ ((l2.length : Int) : Int) := of_decide_eq_true (by first | (with_reducible assumption) | assumption); obtain ⟨i051, hi051, _, hsz51, _⟩ := info_parts info66; have hroom51 : l2.length ≤ c2 := HC2.out; have hC51 : Kd.C k66 _ (some ad163) l2.length l2 := HR2.out; have hcut51 := cut_to (P := Try.prog) 43 66 .i64 Try.underlying43 hi051 (some ad163) l2.length c2 x45_3 (of_decide_eq_true (by first | (with_reducible assumption) | assumption)) q51 hroom51; have hr51 := Kd.C_take (m := (x45_3 : Int).toNat) hC51 (by omega); have hy51 : y170.length = (x45_3 : Int).toNat := (by rw [Ny170.out, List.length_take]; omega); rw [← Ny170.out] at hr51; rw [← hy51] at hcut51; have HR173 := Aside0.mk hr51; have HC173 := Aside0.mk (show y170.length ≤ c2 from by omega); clear hr51 hC51 hroom51 hi051 hsz51; have KY51 := Aside0.mk hy51; clear hy51; replace q51 := eq_true q51)))
                                          go_loopg [89] kj26 (fun kq v89 w' => ∃ (x89_5 : Int), v89 = .int .i64 x89_5 ∧ Aside0 (spec_IsSchedule.l2 kq l0 a1 l2 y169 l2 (l2.length : Int) x45_3 y170 (y170.length : Int) x89_5 ((rd_T66 l2 x45_3).f0) ((rd_T66 l2 x45_3).f1) ((rd_T66 l2 x45_3).f2) = some (r1, r2)) ∧ Aside0 (kq ≤ kj26) ∧ Aside0 (Kd.R (Kd.int .i64) 3 w' w.heap.size (fun _ => True) (.slice (some ⟨go45, 0, none⟩) x8_3.length co17) y169) ∧ Aside0 (w'.heap[gb164]? = some (.cells #[.int .i64 ((rd_T66 l2 x45_3).f0), .int .i64 ((rd_T66 l2 x45_3).f1), .int .i64 ((rd_T66 l2 x45_3).f2)] 66 (0, 0))) ∧ Aside0 (Below w.heap.size w w'))
                                          case atStart => exact ⟨(0), (by first | rfl | (simp; done) | (simp [*]; done)), H', ⟨Nat.le_refl _⟩, ⟨by (try simp only [hl8_2]); (try simp only [hl8_3]); (with_reducible repeat (first | apply Kd.R_alloc | apply Kd.R_drewN | apply Kd.R_drew)); exact HO_8.out⟩, ⟨by (try simp only [hl8_2]); (try simp only [hl8_3]); (with_reducible repeat (first | refine blk_drewN ?_ _ | refine blk_drew ?_ | refine blk_alloc ?_ _)); exact BK164.out⟩, ⟨by repeat (first | (with_reducible first | exact HB.out | apply below_alloc | apply pw_below_drewN | apply below_drew1 | refine below_set ?_ GE164.out) | exact HB.out)⟩⟩
                                          case round =>
                                            clear H'
                                            try clear c1
                                            try clear p1
                                            try clear q1
                                            try clear hx1
                                            try clear c2
                                            try clear p2
                                            try clear q2
                                            try clear hx2
                                            try clear c3
                                            try clear c4
                                            try clear p4
                                            try clear q4
                                            try clear hx4
                                            try clear hf4
                                            try clear q5
                                            try clear c6
                                            try clear p6
                                            try clear c8
                                            try clear c12
                                            try clear c13
                                            try clear c13b0
                                            try clear c13b1
                                            try clear c14
                                            try clear c14b0
                                            try clear c14b1
                                            try clear p16
                                            try clear q16
                                            try clear hx16
                                            try clear c18
                                            try clear c18b0
                                            try clear c19
                                            try clear c19b0
                                            try clear c20
                                            try clear c20b0
                                            try clear p21
                                            try clear q21
                                            try clear hx21
                                            try clear hf21
                                            try clear c24
                                            try clear c24b0
                                            try clear c25
                                            try clear c25b0
                                            try clear c26
                                            try clear c26b0
                                            try clear c31
                                            try clear c33
                                            try clear c34
                                            try clear c35
                                            try clear c36
                                            try clear c36b0
                                            try clear c37
                                            try clear c37b0
                                            try clear c42
                                            try clear c43
                                            try clear c43b0
                                            try clear c44
                                            try clear c44b0
                                            try clear p45
                                            try clear q45
                                            try clear hx45
                                            try clear hf45
                                            try clear c46
                                            try clear c46b0
                                            try clear c46b1
                                            try clear c47
                                            try clear c47b0
                                            try clear c47b1
                                            try clear q51
                                            try clear hcz29_0
                                            try clear hcz29_1
                                            try clear hcz29_2
                                            try clear hcz38_0
                                            try clear hcz38_1
                                            try clear hcz38_2
                                            try clear hcz39_0
                                            try clear hcz39_1
                                            try clear hcz39_2
                                            try clear hcz40_0
                                            try clear hcz40_1
                                            try clear hcz40_2
                                            try clear hcz41_0
                                            try clear hcz41_1
                                            try clear hcz41_2
                                            try clear hcz48_0
                                            try clear hcz48_1
                                            try clear hcz48_2
                                            try clear hfz29_0
                                            try clear hfz29_1
                                            try clear hfz29_2
                                            try clear hfz38_0
                                            try clear hfz38_1
                                            try clear hfz38_2
                                            try clear hfz39_0
                                            try clear hfz39_1
                                            try clear hfz39_2
                                            try clear hfz40_0
                                            try clear hfz40_1
                                            try clear hfz40_2
                                            try clear hfz41_0
                                            try clear hfz41_1
                                            try clear hfz41_2
                                            try clear hfz48_0
                                            try clear hfz48_1
                                            try clear hfz48_2
                                            try clear hx163_0
                                            try clear hx163_1
                                            try clear hx163_2
                                            try clear hx168_0
                                            try clear hx21_0
                                            try clear hx45_0
                                            try clear p1
                                            try clear p16
                                            try clear p163
                                            try clear p168
                                            try clear p2
                                            try clear p21
                                            try clear p45
                                            try clear p6
                                            try clear q1
                                            try clear q16
                                            try clear q163
                                            try clear q168
                                            try clear q2
                                            try clear q21
                                            try clear q45
                                            try clear q51
                                            obtain ⟨x89_5, rfl, HA, HK5, HO_8, BK164, HB⟩ := hrel
                                            have hl8_5 := (Kd.R_reads' HO_8.out).1
                                            rw [hl8_5] at HO_8
                                            (try simp only [hl8_5])
                                            (try simp only [hl8_5] at BK164)
                                            cases gk with
                                            | zero => exact absurd HA.out (by simp [spec_IsSchedule.l2])
                                            | succ k5 =>
                                              have H := HA.out
                                              clear HA
                                              simp only [spec_IsSchedule.l2] at H
                                              by_cases c52 : x89_5 < (y170.length : Int)
                                              · rw [if_pos c52] at H
                                                have c52b0 : decide (x89_5 < (y170.length : Int)) = true := decide_eq_true c52
                                                clear c52
                                                by_cases c53 : 0 ≤ x89_5
                                                · rw [if_pos c53] at H
                                                  have c53b0 : decide (0 ≤ x89_5) = true := decide_eq_true c53
                                                  clear c53
                                                  by_cases c54 : x89_5 < (y170.length : Int)
                                                  · rw [if_pos c54] at H
                                                    have c54b0 : decide (x89_5 < (y170.length : Int)) = true := decide_eq_true c54
                                                    clear c54
                                                    by_cases c55 : ((rd_T66 y170 x89_5).f1) = ((rd_T66 l2 x45_3).f1)
                                                    · rw [if_pos c55] at H
                                                      have c55b0 : (((rd_T66 y170 x89_5).f1) == ((rd_T66 l2 x45_3).f1)) = true := beq_iff_eq.mpr c55
                                                      have c55b1 : (((rd_T66 y170 x89_5).f1) != ((rd_T66 l2 x45_3).f1)) = false := bne_eq_false_iff_eq.mpr c55
                                                      clear c55
                                                      by_cases c56 : 0 ≤ ((rd_T66 l2 x45_3).f0)
                                                      · rw [if_pos c56] at H
                                                        have c56b0 : decide (0 ≤ ((rd_T66 l2 x45_3).f0)) = true := decide_eq_true c56
                                                        clear c56
                                                        by_cases c57 : ((rd_T66 l2 x45_3).f0) < (l0.length : Int)
                                                        · rw [if_pos c57] at H
                                                          have c57b0 : decide (((rd_T66 l2 x45_3).f0) < (l0.length : Int)) = true := decide_eq_true c57
                                                          clear c57
                                                          by_cases c58 : ((rd_T66 y170 x89_5).f2) < (wrap64 (((rd_T66 l2 x45_3).f2) + ((rd_T53 l0 ((rd_T66 l2 x45_3).f0)).f0)))
                                                          · rw [if_pos c58] at H
                                                            have c58b0 : decide (((rd_T66 y170 x89_5).f2) < (wrap64 (((rd_T66 l2 x45_3).f2) + ((rd_T53 l0 ((rd_T66 l2 x45_3).f0)).f0)))) = true := decide_eq_true c58
                                                            clear c58
                                                            by_cases c59 : 0 ≤ ((rd_T66 y170 x89_5).f0)
                                                            · rw [if_pos c59] at H
                                                              have c59b0 : decide (0 ≤ ((rd_T66 y170 x89_5).f0)) = true := decide_eq_true c59
                                                              clear c59
                                                              by_cases c60 : ((rd_T66 y170 x89_5).f0) < (l0.length : Int)
                                                              · rw [if_pos c60] at H
                                                                have c60b0 : decide (((rd_T66 y170 x89_5).f0) < (l0.length : Int)) = true := decide_eq_true c60
                                                                clear c60
                                                                by_cases c61 : ((rd_T66 l2 x45_3).f2) < (wrap64 (((rd_T66 y170 x89_5).f2) + ((rd_T53 l0 ((rd_T66 y170 x89_5).f0)).f0)))
                                                                · rw [if_pos c61] at H
                                                                  have c61b0 : decide (((rd_T66 l2 x45_3).f2) < (wrap64 (((rd_T66 y170 x89_5).f2) + ((rd_T53 l0 ((rd_T66 y170 x89_5).f0)).f0)))) = true := decide_eq_true c61
                                                                  clear c61
                                                                  simp only [Option.some.injEq, Prod.mk.injEq] at H
                                                                  obtain ⟨rfl, rfl⟩ := H
                                                                  have p174 : 0 ≤ (x89_5 : Int) := of_decide_eq_true (by first | (with_reducible assumption) | assumption)
                                                                  have q174 : x89_5 < (y170.length : Int) := of_decide_eq_true (by first | (with_reducible assumption) | assumption)
                                                                  obtain ⟨ad174, e174, hx174_0, hx174_1, hx174_2⟩ := at_T66 HR173.out x89_5 p174 q174
                                                                  obtain rfl : ad163 = ad174 := (by injection e174)
                                                                  try replace hx174_0 := (HB.out.cell (World.block_lt_of_cell? w _ hx174_0)).trans hx174_0
                                                                  try replace hx174_1 := (HB.out.cell (World.block_lt_of_cell? w _ hx174_1)).trans hx174_1
                                                                  try replace hx174_2 := (HB.out.cell (World.block_lt_of_cell? w _ hx174_2)).trans hx174_2
                                                                  replace p174 := eq_true p174
                                                                  replace q174 := eq_true q174
                                                                  go_wp2_with (first | ((with_reducible refine gate_dst (N := 13) rfl ?_); (try (refine gate_guard (by rfl) ?_; dsimp only)); refine box_event ?hg (N := 13) ?hd (cs := #[.int .i64 0, .int .i64 0, .int .i64 0]) (t := 66) ?hr ?_; (case hd => rfl); (case hg => rfl); (case hr => first | (go_simp; done) | (go_simp; rfl)); intro gb175 hg w62 hbox hb; have n0_ := Aside0.mk (Kd.R_below (by (with_reducible repeat (first | apply Kd.R_alloc | apply Kd.R_drewN | apply Kd.R_drew)); exact HO_8.out) hb); have n1_ := Aside0.mk (blk_below (g := gb164) (o := .cells #[.int .i64 ((rd_T66 l2 x45_3).f0), .int .i64 ((rd_T66 l2 x45_3).f1), .int .i64 ((rd_T66 l2 x45_3).f2)] 66 (0, 0)) (by (with_reducible repeat (first | refine blk_drewN ?_ _ | refine blk_drew ?_ | refine blk_alloc ?_ _)); exact BK164.out) hb); have n2_ := Aside0.mk (below_step (by repeat (first | (with_reducible first | exact HB.out | apply below_alloc | apply pw_below_drewN | apply below_drew1 | refine below_set ?_ GE164.out) | exact HB.out)) hb); have n3_ := Aside0.mk (hbox); have n4_ := Aside0.mk ((by rw [hg]; exact (below_size (by repeat (first | (with_reducible first | exact HB.out | apply below_alloc | apply pw_below_drewN | apply below_drew1 | refine below_set ?_ GE164.out) | exact HB.out))) : w.heap.size ≤ gb175)); have n5_ := Aside0.mk ((by rw [hg]; exact (below_size (by repeat (first | (with_reducible first | exact HB.out | apply below_alloc | apply pw_below_drewN | apply below_drew1 | refine below_set ?_ GE164.out) | exact HB.out))) : w.heap.size ≤ gb175)); have n6_ := Aside0.mk ((by rw [hg]; exact Nat.ne_of_lt (blk_lt (g := gb164) (o := .cells #[.int .i64 ((rd_T66 l2 x45_3).f0), .int .i64 ((rd_T66 l2 x45_3).f1), .int .i64 ((rd_T66 l2 x45_3).f2)] 66 (0, 0)) (by (with_reducible repeat (first | refine blk_drewN ?_ _ | refine blk_drew ?_ | refine blk_alloc ?_ _)); exact BK164.out)) : gb164 ≠ gb175)); have n7_ := Aside0.mk ((by rw [hg]; exact Nat.ne_of_gt (blk_lt (g := gb164) (o := .cells #[.int .i64 ((rd_T66 l2 x45_3).f0), .int .i64 ((rd_T66 l2 x45_3).f1), .int .i64 ((rd_T66 l2 x45_3).f2)] 66 (0, 0)) (by (with_reducible repeat (first | refine blk_drewN ?_ _ | refine blk_drew ?_ | refine blk_alloc ?_ _)); exact BK164.out)) : gb175 ≠ gb164)); clear HO_8; clear BK164; clear HB; have HO_8 := n0_; have BK164 := n1_; have HB := n2_; have BK175 := n3_; have GW175 := n4_; have GE175 := n5_; have NB164_175 := n6_; have NB175_164 := n7_; clear n0_ n1_ n2_ n3_ n4_ n5_ n6_ n7_; clear hb hbox hg; have hnb63 := NB175_164.out; have hnc63 := NB164_175.out; have hcz64_0 : w62.cell? ⟨gb175, 0, none⟩ = some (.int .i64 0) := (blk_cell BK175.out 0).trans rfl; have hcz64_1 : w62.cell? ⟨gb175, 1, none⟩ = some (.int .i64 0) := (blk_cell BK175.out 1).trans rfl; have hcz64_2 : w62.cell? ⟨gb175, 2, none⟩ = some (.int .i64 0) := (blk_cell BK175.out 2).trans rfl; have hfz64_0 := blk_frozen BK175.out 0; have hfz64_1 := blk_frozen BK175.out 1; have hfz64_2 := blk_frozen BK175.out 2; have hcz65_0 : w62.cell? ⟨gb164, 0, none⟩ = some (.int .i64 ((rd_T66 l2 x45_3).f0)) := (blk_cell BK164.out 0).trans rfl; have hcz65_1 : w62.cell? ⟨gb164, 1, none⟩ = some (.int .i64 ((rd_T66 l2 x45_3).f1)) := (blk_cell BK164.out 1).trans rfl; have hcz65_2 : w62.cell? ⟨gb164, 2, none⟩ = some (.int .i64 ((rd_T66 l2 x45_3).f2)) := (blk_cell BK164.out 2).trans rfl; have hfz65_0 := blk_frozen BK164.out 0; have hfz65_1 := blk_frozen BK164.out 1; have hfz65_2 := blk_frozen BK164.out 2; have p176 : 0 ≤ (((rd_T66 l2 x45_3).f0) : Int) := of_decide_eq_true (by first | (with_reducible assumption) | assumption); have q176 : ((rd_T66 l2 x45_3).f0) < (l0.length : Int) := of_decide_eq_true (by first | (with_reducible assumption) | assumption); obtain ⟨ad176, A176_1, c176_1, e176, hx176_0, hx176_1, hl176_1, hi176_1⟩ := at_T53 HR0.out ((rd_T66 l2 x45_3).f0) p176 q176; cases e176; have hn176_0 : ad176.block ≠ gb175 := Nat.ne_of_lt (Nat.lt_of_lt_of_le (by have := World.block_lt_of_cell? _ _ hx176_0; first | rwa [add_block] at this | exact this) GW175.out); have hn176_1 : ad176.block ≠ gb175 := Nat.ne_of_lt (Nat.lt_of_lt_of_le (by have := World.block_lt_of_cell? _ _ hx176_0; first | rwa [add_block] at this | exact this) GW175.out); have hn176_2 : ad176.block ≠ gb175 := Nat.ne_of_lt (Nat.lt_of_lt_of_le (by have := World.block_lt_of_cell? _ _ hx176_0; first | rwa [add_block] at this | exact this) GW175.out); replace hx176_0 := (HB.out.cell (World.block_lt_of_cell? w _ hx176_0)).trans hx176_0; replace hx176_1 := (HB.out.cell (World.block_lt_of_cell? w _ hx176_1)).trans hx176_1; have HR176_1 := Aside0.mk hi176_1; have HC176_1 := Aside0.mk hl176_1; clear hi176_1 hl176_1; replace hx176_0 := (cell_far (p := ⟨gb175, 0, none⟩) (by first | (rw [add_block]; exact hn176_0) | (show (Addr.add _ _).block ≠ _; rw [add_block]; exact hn176_0) | exact hn176_0) (.int .i64 ((rd_T66 y170 x89_5).f0))).trans hx176_0; replace hx176_1 := (cell_far (p := ⟨gb175, 0, none⟩) (by first | (rw [add_block]; exact hn176_0) | (show (Addr.add _ _).block ≠ _; rw [add_block]; exact hn176_0) | exact hn176_0) (.int .i64 ((rd_T66 y170 x89_5).f0))).trans hx176_1; replace hx176_0 := (cell_far (p := ⟨gb175, 1, none⟩) (by first | (rw [add_block]; exact hn176_1) | (show (Addr.add _ _).block ≠ _; rw [add_block]; exact hn176_1) | exact hn176_1) (.int .i64 ((rd_T66 y170 x89_5).f1))).trans hx176_0; replace hx176_1 := (cell_far (p := ⟨gb175, 1, none⟩) (by first | (rw [add_block]; exact hn176_1) | (show (Addr.add _ _).block ≠ _; rw [add_block]; exact hn176_1) | exact hn176_1) (.int .i64 ((rd_T66 y170 x89_5).f1))).trans hx176_1; replace hx176_0 := (cell_far (p := ⟨gb175, 2, none⟩) (by first | (rw [add_block]; exact hn176_2) | (show (Addr.add _ _).block ≠ _; rw [add_block]; exact hn176_2) | exact hn176_2) (.int .i64 ((rd_T66 y170 x89_5).f2))).trans hx176_0; replace hx176_1 := (cell_far (p := ⟨gb175, 2, none⟩) (by first | (rw [add_block]; exact hn176_2) | (show (Addr.add _ _).block ≠ _; rw [add_block]; exact hn176_2) | exact hn176_2) (.int .i64 ((rd_T66 y170 x89_5).f2))).trans hx176_1; (try have hy176_0 := fun (n_ : Nat) => (show (((((w62.drewN n_).setCell ⟨gb175, 0, none⟩ (.int .i64 ((rd_T66 y170 x89_5).f0))).setCell ⟨gb175, 1, none⟩ (.int .i64 ((rd_T66 y170 x89_5).f1))).setCell ⟨gb175, 2, none⟩ (.int .i64 ((rd_T66 y170 x89_5).f2)))).cell? _ = some _ from hx176_0)); (try have hy176_1 := fun (n_ : Nat) => (show (((((w62.drewN n_).setCell ⟨gb175, 0, none⟩ (.int .i64 ((rd_T66 y170 x89_5).f0))).setCell ⟨gb175, 1, none⟩ (.int .i64 ((rd_T66 y170 x89_5).f1))).setCell ⟨gb175, 2, none⟩ (.int .i64 ((rd_T66 y170 x89_5).f2)))).cell? _ = some _ from hx176_1)); clear hn176_0; clear hn176_1; clear hn176_2; replace p176 := eq_true p176; replace q176 := eq_true q176; have p177 : 0 ≤ (((rd_T66 y170 x89_5).f0) : Int) := of_decide_eq_true (by first | (with_reducible assumption) | assumption); have q177 : ((rd_T66 y170 x89_5).f0) < (l0.length : Int) := of_decide_eq_true (by first | (with_reducible assumption) | assumption); obtain ⟨ad177, A177_1, c177_1, e177, hx177_0, hx177_1, hl177_1, hi177_1⟩ := at_T53 HR0.out ((rd_T66 y170 x89_5).f0) p177 q177; obtain rfl : ad176 = ad177 := (by injection e177); have hn177_0 : ad176.block ≠ gb175 := Nat.ne_of_lt (Nat.lt_of_lt_of_le (by have := World.block_lt_of_cell? _ _ hx177_0; first | rwa [add_block] at this | exact this) GW175.out); have hn177_1 : ad176.block ≠ gb175 := Nat.ne_of_lt (Nat.lt_of_lt_of_le (by have := World.block_lt_of_cell? _ _ hx177_0; first | rwa [add_block] at this | exact this) GW175.out); have hn177_2 : ad176.block ≠ gb175 := Nat.ne_of_lt (Nat.lt_of_lt_of_le (by have := World.block_lt_of_cell? _ _ hx177_0; first | rwa [add_block] at this | exact this) GW175.out); replace hx177_0 := (HB.out.cell (World.block_lt_of_cell? w _ hx177_0)).trans hx177_0; replace hx177_1 := (HB.out.cell (World.block_lt_of_cell? w _ hx177_1)).trans hx177_1; have HR177_1 := Aside0.mk hi177_1; have HC177_1 := Aside0.mk hl177_1; clear hi177_1 hl177_1; replace hx177_0 := (cell_far (p := ⟨gb175, 0, none⟩) (by first | (rw [add_block]; exact hn177_0) | (show (Addr.add _ _).block ≠ _; rw [add_block]; exact hn177_0) | exact hn177_0) (.int .i64 ((rd_T66 y170 x89_5).f0))).trans hx177_0; replace hx177_1 := (cell_far (p := ⟨gb175, 0, none⟩) (by first | (rw [add_block]; exact hn177_0) | (show (Addr.add _ _).block ≠ _; rw [add_block]; exact hn177_0) | exact hn177_0) (.int .i64 ((rd_T66 y170 x89_5).f0))).trans hx177_1; replace hx177_0 := (cell_far (p := ⟨gb175, 1, none⟩) (by first | (rw [add_block]; exact hn177_1) | (show (Addr.add _ _).block ≠ _; rw [add_block]; exact hn177_1) | exact hn177_1) (.int .i64 ((rd_T66 y170 x89_5).f1))).trans hx177_0; replace hx177_1 := (cell_far (p := ⟨gb175, 1, none⟩) (by first | (rw [add_block]; exact hn177_1) | (show (Addr.add _ _).block ≠ _; rw [add_block]; exact hn177_1) | exact hn177_1) (.int .i64 ((rd_T66 y170 x89_5).f1))).trans hx177_1; replace hx177_0 := (cell_far (p := ⟨gb175, 2, none⟩) (by first | (rw [add_block]; exact hn177_2) | (show (Addr.add _ _).block ≠ _; rw [add_block]; exact hn177_2) | exact hn177_2) (.int .i64 ((rd_T66 y170 x89_5).f2))).trans hx177_0; replace hx177_1 := (cell_far (p := ⟨gb175, 2, none⟩) (by first | (rw [add_block]; exact hn177_2) | (show (Addr.add _ _).block ≠ _; rw [add_block]; exact hn177_2) | exact hn177_2) (.int .i64 ((rd_T66 y170 x89_5).f2))).trans hx177_1; (try have hy177_0 := fun (n_ : Nat) => (show (((((w62.drewN n_).setCell ⟨gb175, 0, none⟩ (.int .i64 ((rd_T66 y170 x89_5).f0))).setCell ⟨gb175, 1, none⟩ (.int .i64 ((rd_T66 y170 x89_5).f1))).setCell ⟨gb175, 2, none⟩ (.int .i64 ((rd_T66 y170 x89_5).f2)))).cell? _ = some _ from hx177_0)); (try have hy177_1 := fun (n_ : Nat) => (show (((((w62.drewN n_).setCell ⟨gb175, 0, none⟩ (.int .i64 ((rd_T66 y170 x89_5).f0))).setCell ⟨gb175, 1, none⟩ (.int .i64 ((rd_T66 y170 x89_5).f1))).setCell ⟨gb175, 2, none⟩ (.int .i64 ((rd_T66 y170 x89_5).f2)))).cell? _ = some _ from hx177_1)); clear hn177_0; clear hn177_1; clear hn177_2; replace p177 := eq_true p177; replace q177 := eq_true q177))
                                                                  repeat (go_quiet (first | ((with_reducible refine gate_dst (N := 13) rfl ?_); (try (refine gate_guard (by rfl) ?_; dsimp only)); refine box_event ?hg (N := 13) ?hd (cs := #[.int .i64 0, .int .i64 0, .int .i64 0]) (t := 66) ?hr ?_; (case hd => rfl); (case hg => rfl); (case hr => first | (go_simp; done) | (go_simp; rfl)); intro gb175 hg w62 hbox hb; have n0_ := Aside0.mk (Kd.R_below (by (with_reducible repeat (first | apply Kd.R_alloc | apply Kd.R_drewN | apply Kd.R_drew)); exact HO_8.out) hb); have n1_ := Aside0.mk (blk_below (g := gb164) (o := .cells #[.int .i64 ((rd_T66 l2 x45_3).f0), .int .i64 ((rd_T66 l2 x45_3).f1), .int .i64 ((rd_T66 l2 x45_3).f2)] 66 (0, 0)) (by (with_reducible repeat (first | refine blk_drewN ?_ _ | refine blk_drew ?_ | refine blk_alloc ?_ _)); exact BK164.out) hb); have n2_ := Aside0.mk (below_step (by repeat (first | (with_reducible first | exact HB.out | apply below_alloc | apply pw_below_drewN | apply below_drew1 | refine below_set ?_ GE164.out) | exact HB.out)) hb); have n3_ := Aside0.mk (hbox); have n4_ := Aside0.mk ((by rw [hg]; exact (below_size (by repeat (first | (with_reducible first | exact HB.out | apply below_alloc | apply pw_below_drewN | apply below_drew1 | refine below_set ?_ GE164.out) | exact HB.out))) : w.heap.size ≤ gb175)); have n5_ := Aside0.mk ((by rw [hg]; exact (below_size (by repeat (first | (with_reducible first | exact HB.out | apply below_alloc | apply pw_below_drewN | apply below_drew1 | refine below_set ?_ GE164.out) | exact HB.out))) : w.heap.size ≤ gb175)); have n6_ := Aside0.mk ((by rw [hg]; exact Nat.ne_of_lt (blk_lt (g := gb164) (o := .cells #[.int .i64 ((rd_T66 l2 x45_3).f0), .int .i64 ((rd_T66 l2 x45_3).f1), .int .i64 ((rd_T66 l2 x45_3).f2)] 66 (0, 0)) (by (with_reducible repeat (first | refine blk_drewN ?_ _ | refine blk_drew ?_ | refine blk_alloc ?_ _)); exact BK164.out)) : gb164 ≠ gb175)); have n7_ := Aside0.mk ((by rw [hg]; exact Nat.ne_of_gt (blk_lt (g := gb164) (o := .cells #[.int .i64 ((rd_T66 l2 x45_3).f0), .int .i64 ((rd_T66 l2 x45_3).f1), .int .i64 ((rd_T66 l2 x45_3).f2)] 66 (0, 0)) (by (with_reducible repeat (first | refine blk_drewN ?_ _ | refine blk_drew ?_ | refine blk_alloc ?_ _)); exact BK164.out)) : gb175 ≠ gb164)); clear HO_8; clear BK164; clear HB; have HO_8 := n0_; have BK164 := n1_; have HB := n2_; have BK175 := n3_; have GW175 := n4_; have GE175 := n5_; have NB164_175 := n6_; have NB175_164 := n7_; clear n0_ n1_ n2_ n3_ n4_ n5_ n6_ n7_; clear hb hbox hg; have hnb63 := NB175_164.out; have hnc63 := NB164_175.out; have hcz64_0 : w62.cell? ⟨gb175, 0, none⟩ = some (.int .i64 0) := (blk_cell BK175.out 0).trans rfl; have hcz64_1 : w62.cell? ⟨gb175, 1, none⟩ = some (.int .i64 0) := (blk_cell BK175.out 1).trans rfl; have hcz64_2 : w62.cell? ⟨gb175, 2, none⟩ = some (.int .i64 0) := (blk_cell BK175.out 2).trans rfl; have hfz64_0 := blk_frozen BK175.out 0; have hfz64_1 := blk_frozen BK175.out 1; have hfz64_2 := blk_frozen BK175.out 2; have hcz65_0 : w62.cell? ⟨gb164, 0, none⟩ = some (.int .i64 ((rd_T66 l2 x45_3).f0)) := (blk_cell BK164.out 0).trans rfl; have hcz65_1 : w62.cell? ⟨gb164, 1, none⟩ = some (.int .i64 ((rd_T66 l2 x45_3).f1)) := (blk_cell BK164.out 1).trans rfl; have hcz65_2 : w62.cell? ⟨gb164, 2, none⟩ = some (.int .i64 ((rd_T66 l2 x45_3).f2)) := (blk_cell BK164.out 2).trans rfl; have hfz65_0 := blk_frozen BK164.out 0; have hfz65_1 := blk_frozen BK164.out 1; have hfz65_2 := blk_frozen BK164.out 2; have p176 : 0 ≤ (((rd_T66 l2 x45_3).f0) : Int) := of_decide_eq_true (by first | (with_reducible assumption) | assumption); have q176 : ((rd_T66 l2 x45_3).f0) < (l0.length : Int) := of_decide_eq_true (by first | (with_reducible assumption) | assumption); obtain ⟨ad176, A176_1, c176_1, e176, hx176_0, hx176_1, hl176_1, hi176_1⟩ := at_T53 HR0.out ((rd_T66 l2 x45_3).f0) p176 q176; cases e176; have hn176_0 : ad176.block ≠ gb175 := Nat.ne_of_lt (Nat.lt_of_lt_of_le (by have := World.block_lt_of_cell? _ _ hx176_0; first | rwa [add_block] at this | exact this) GW175.out); have hn176_1 : ad176.block ≠ gb175 := Nat.ne_of_lt (Nat.lt_of_lt_of_le (by have := World.block_lt_of_cell? _ _ hx176_0; first | rwa [add_block] at this | exact this) GW175.out); have hn176_2 : ad176.block ≠ gb175 := Nat.ne_of_lt (Nat.lt_of_lt_of_le (by have := World.block_lt_of_cell? _ _ hx176_0; first | rwa [add_block] at this | exact this) GW175.out); replace hx176_0 := (HB.out.cell (World.block_lt_of_cell? w _ hx176_0)).trans hx176_0; replace hx176_1 := (HB.out.cell (World.block_lt_of_cell? w _ hx176_1)).trans hx176_1; have HR176_1 := Aside0.mk hi176_1; have HC176_1 := Aside0.mk hl176_1; clear hi176_1 hl176_1; replace hx176_0 := (cell_far (p := ⟨gb175, 0, none⟩) (by first | (rw [add_block]; exact hn176_0) | (show (Addr.add _ _).block ≠ _; rw [add_block]; exact hn176_0) | exact hn176_0) (.int .i64 ((rd_T66 y170 x89_5).f0))).trans hx176_0; replace hx176_1 := (cell_far (p := ⟨gb175, 0, none⟩) (by first | (rw [add_block]; exact hn176_0) | (show (Addr.add _ _).block ≠ _; rw [add_block]; exact hn176_0) | exact hn176_0) (.int .i64 ((rd_T66 y170 x89_5).f0))).trans hx176_1; replace hx176_0 := (cell_far (p := ⟨gb175, 1, none⟩) (by first | (rw [add_block]; exact hn176_1) | (show (Addr.add _ _).block ≠ _; rw [add_block]; exact hn176_1) | exact hn176_1) (.int .i64 ((rd_T66 y170 x89_5).f1))).trans hx176_0; replace hx176_1 := (cell_far (p := ⟨gb175, 1, none⟩) (by first | (rw [add_block]; exact hn176_1) | (show (Addr.add _ _).block ≠ _; rw [add_block]; exact hn176_1) | exact hn176_1) (.int .i64 ((rd_T66 y170 x89_5).f1))).trans hx176_1; replace hx176_0 := (cell_far (p := ⟨gb175, 2, none⟩) (by first | (rw [add_block]; exact hn176_2) | (show (Addr.add _ _).block ≠ _; rw [add_block]; exact hn176_2) | exact hn176_2) (.int .i64 ((rd_T66 y170 x89_5).f2))).trans hx176_0; replace hx176_1 := (cell_far (p := ⟨gb175, 2, none⟩) (by first | (rw [add_block]; exact hn176_2) | (show (Addr.add _ _).block ≠ _; rw [add_block]; exact hn176_2) | exact hn176_2) (.int .i64 ((rd_T66 y170 x89_5).f2))).trans hx176_1; (try have hy176_0 := fun (n_ : Nat) => (show (((((w62.drewN n_).setCell ⟨gb175, 0, none⟩ (.int .i64 ((rd_T66 y170 x89_5).f0))).setCell ⟨gb175, 1, none⟩ (.int .i64 ((rd_T66 y170 x89_5).f1))).setCell ⟨gb175, 2, none⟩ (.int .i64 ((rd_T66 y170 x89_5).f2)))).cell? _ = some _ from hx176_0)); (try have hy176_1 := fun (n_ : Nat) => (show (((((w62.drewN n_).setCell ⟨gb175, 0, none⟩ (.int .i64 ((rd_T66 y170 x89_5).f0))).setCell ⟨gb175, 1, none⟩ (.int .i64 ((rd_T66 y170 x89_5).f1))).setCell ⟨gb175, 2, none⟩ (.int .i64 ((rd_T66 y170 x89_5).f2)))).cell? _ = some _ from hx176_1)); clear hn176_0; clear hn176_1; clear hn176_2; replace p176 := eq_true p176; replace q176 := eq_true q176; have p177 : 0 ≤ (((rd_T66 y170 x89_5).f0) : Int) := of_decide_eq_true (by first | (with_reducible assumption) | assumption); have q177 : ((rd_T66 y170 x89_5).f0) < (l0.length : Int) := of_decide_eq_true (by first | (with_reducible assumption) | assumption); obtain ⟨ad177, A177_1, c177_1, e177, hx177_0, hx177_1, hl177_1, hi177_1⟩ := at_T53 HR0.out ((rd_T66 y170 x89_5).f0) p177 q177; obtain rfl : ad176 = ad177 := (by injection e177); have hn177_0 : ad176.block ≠ gb175 := Nat.ne_of_lt (Nat.lt_of_lt_of_le (by have := World.block_lt_of_cell? _ _ hx177_0; first | rwa [add_block] at this | exact this) GW175.out); have hn177_1 : ad176.block ≠ gb175 := Nat.ne_of_lt (Nat.lt_of_lt_of_le (by have := World.block_lt_of_cell? _ _ hx177_0; first | rwa [add_block] at this | exact this) GW175.out); have hn177_2 : ad176.block ≠ gb175 := Nat.ne_of_lt (Nat.lt_of_lt_of_le (by have := World.block_lt_of_cell? _ _ hx177_0; first | rwa [add_block] at this | exact this) GW175.out); replace hx177_0 := (HB.out.cell (World.block_lt_of_cell? w _ hx177_0)).trans hx177_0; replace hx177_1 := (HB.out.cell (World.block_lt_of_cell? w _ hx177_1)).trans hx177_1; have HR177_1 := Aside0.mk hi177_1; have HC177_1 := Aside0.mk hl177_1; clear hi177_1 hl177_1; replace hx177_0 := (cell_far (p := ⟨gb175, 0, none⟩) (by first | (rw [add_block]; exact hn177_0) | (show (Addr.add _ _).block ≠ _; rw [add_block]; exact hn177_0) | exact hn177_0) (.int .i64 ((rd_T66 y170 x89_5).f0))).trans hx177_0; replace hx177_1 := (cell_far (p := ⟨gb175, 0, none⟩) (by first | (rw [add_block]; exact hn177_0) | (show (Addr.add _ _).block ≠ _; rw [add_block]; exact hn177_0) | exact hn177_0) (.int .i64 ((rd_T66 y170 x89_5).f0))).trans hx177_1; replace hx177_0 := (cell_far (p := ⟨gb175, 1, none⟩) (by first | (rw [add_block]; exact hn177_1) | (show (Addr.add _ _).block ≠ _; rw [add_block]; exact hn177_1) | exact hn177_1) (.int .i64 ((rd_T66 y170 x89_5).f1))).trans hx177_0; replace hx177_1 := (cell_far (p := ⟨gb175, 1, none⟩) (by first | (rw [add_block]; exact hn177_1) | (show (Addr.add _ _).block ≠ _; rw [add_block]; exact hn177_1) | exact hn177_1) (.int .i64 ((rd_T66 y170 x89_5).f1))).trans hx177_1; replace hx177_0 := (cell_far (p := ⟨gb175, 2, none⟩) (by first | (rw [add_block]; exact hn177_2) | (show (Addr.add _ _).block ≠ _; rw [add_block]; exact hn177_2) | exact hn177_2) (.int .i64 ((rd_T66 y170 x89_5).f2))).trans hx177_0; replace hx177_1 := (cell_far (p := ⟨gb175, 2, none⟩) (by first | (rw [add_block]; exact hn177_2) | (show (Addr.add _ _).block ≠ _; rw [add_block]; exact hn177_2) | exact hn177_2) (.int .i64 ((rd_T66 y170 x89_5).f2))).trans hx177_1; (try have hy177_0 := fun (n_ : Nat) => (show (((((w62.drewN n_).setCell ⟨gb175, 0, none⟩ (.int .i64 ((rd_T66 y170 x89_5).f0))).setCell ⟨gb175, 1, none⟩ (.int .i64 ((rd_T66 y170 x89_5).f1))).setCell ⟨gb175, 2, none⟩ (.int .i64 ((rd_T66 y170 x89_5).f2)))).cell? _ = some _ from hx177_0)); (try have hy177_1 := fun (n_ : Nat) => (show (((((w62.drewN n_).setCell ⟨gb175, 0, none⟩ (.int .i64 ((rd_T66 y170 x89_5).f0))).setCell ⟨gb175, 1, none⟩ (.int .i64 ((rd_T66 y170 x89_5).f1))).setCell ⟨gb175, 2, none⟩ (.int .i64 ((rd_T66 y170 x89_5).f2)))).cell? _ = some _ from hx177_1)); clear hn177_0; clear hn177_1; clear hn177_2; replace p177 := eq_true p177; replace q177 := eq_true q177)); try go_wp2_with (first | ((with_reducible refine gate_dst (N := 13) rfl ?_); (try (refine gate_guard (by rfl) ?_; dsimp only)); refine box_event ?hg (N := 13) ?hd (cs := #[.int .i64 0, .int .i64 0, .int .i64 0]) (t := 66) ?hr ?_; (case hd => rfl); (case hg => rfl); (case hr => first | (go_simp; done) | (go_simp; rfl)); intro gb175 hg w62 hbox hb; have n0_ := Aside0.mk (Kd.R_below (by (with_reducible repeat (first | apply Kd.R_alloc | apply Kd.R_drewN | apply Kd.R_drew)); exact HO_8.out) hb); have n1_ := Aside0.mk (blk_below (g := gb164) (o := .cells #[.int .i64 ((rd_T66 l2 x45_3).f0), .int .i64 ((rd_T66 l2 x45_3).f1), .int .i64 ((rd_T66 l2 x45_3).f2)] 66 (0, 0)) (by (with_reducible repeat (first | refine blk_drewN ?_ _ | refine blk_drew ?_ | refine blk_alloc ?_ _)); exact BK164.out) hb); have n2_ := Aside0.mk (below_step (by repeat (first | (with_reducible first | exact HB.out | apply below_alloc | apply pw_below_drewN | apply below_drew1 | refine below_set ?_ GE164.out) | exact HB.out)) hb); have n3_ := Aside0.mk (hbox); have n4_ := Aside0.mk ((by rw [hg]; exact (below_size (by repeat (first | (with_reducible first | exact HB.out | apply below_alloc | apply pw_below_drewN | apply below_drew1 | refine below_set ?_ GE164.out) | exact HB.out))) : w.heap.size ≤ gb175)); have n5_ := Aside0.mk ((by rw [hg]; exact (below_size (by repeat (first | (with_reducible first | exact HB.out | apply below_alloc | apply pw_below_drewN | apply below_drew1 | refine below_set ?_ GE164.out) | exact HB.out))) : w.heap.size ≤ gb175)); have n6_ := Aside0.mk ((by rw [hg]; exact Nat.ne_of_lt (blk_lt (g := gb164) (o := .cells #[.int .i64 ((rd_T66 l2 x45_3).f0), .int .i64 ((rd_T66 l2 x45_3).f1), .int .i64 ((rd_T66 l2 x45_3).f2)] 66 (0, 0)) (by (with_reducible repeat (first | refine blk_drewN ?_ _ | refine blk_drew ?_ | refine blk_alloc ?_ _)); exact BK164.out)) : gb164 ≠ gb175)); have n7_ := Aside0.mk ((by rw [hg]; exact Nat.ne_of_gt (blk_lt (g := gb164) (o := .cells #[.int .i64 ((rd_T66 l2 x45_3).f0), .int .i64 ((rd_T66 l2 x45_3).f1), .int .i64 ((rd_T66 l2 x45_3).f2)] 66 (0, 0)) (by (with_reducible repeat (first | refine blk_drewN ?_ _ | refine blk_drew ?_ | refine blk_alloc ?_ _)); exact BK164.out)) : gb175 ≠ gb164)); clear HO_8; clear BK164; clear HB; have HO_8 := n0_; have BK164 := n1_; have HB := n2_; have BK175 := n3_; have GW175 := n4_; have GE175 := n5_; have NB164_175 := n6_; have NB175_164 := n7_; clear n0_ n1_ n2_ n3_ n4_ n5_ n6_ n7_; clear hb hbox hg; have hnb63 := NB175_164.out; have hnc63 := NB164_175.out; have hcz64_0 : w62.cell? ⟨gb175, 0, none⟩ = some (.int .i64 0) := (blk_cell BK175.out 0).trans rfl; have hcz64_1 : w62.cell? ⟨gb175, 1, none⟩ = some (.int .i64 0) := (blk_cell BK175.out 1).trans rfl; have hcz64_2 : w62.cell? ⟨gb175, 2, none⟩ = some (.int .i64 0) := (blk_cell BK175.out 2).trans rfl; have hfz64_0 := blk_frozen BK175.out 0; have hfz64_1 := blk_frozen BK175.out 1; have hfz64_2 := blk_frozen BK175.out 2; have hcz65_0 : w62.cell? ⟨gb164, 0, none⟩ = some (.int .i64 ((rd_T66 l2 x45_3).f0)) := (blk_cell BK164.out 0).trans rfl; have hcz65_1 : w62.cell? ⟨gb164, 1, none⟩ = some (.int .i64 ((rd_T66 l2 x45_3).f1)) := (blk_cell BK164.out 1).trans rfl; have hcz65_2 : w62.cell? ⟨gb164, 2, none⟩ = some (.int .i64 ((rd_T66 l2 x45_3).f2)) := (blk_cell BK164.out 2).trans rfl; have hfz65_0 := blk_frozen BK164.out 0; have hfz65_1 := blk_frozen BK164.out 1; have hfz65_2 := blk_frozen BK164.out 2; have p176 : 0 ≤ (((rd_T66 l2 x45_3).f0) : Int) := of_decide_eq_true (by first | (with_reducible assumption) | assumption); have q176 : ((rd_T66 l2 x45_3).f0) < (l0.length : Int) := of_decide_eq_true (by first | (with_reducible assumption) | assumption); obtain ⟨ad176, A176_1, c176_1, e176, hx176_0, hx176_1, hl176_1, hi176_1⟩ := at_T53 HR0.out ((rd_T66 l2 x45_3).f0) p176 q176; cases e176; have hn176_0 : ad176.block ≠ gb175 := Nat.ne_of_lt (Nat.lt_of_lt_of_le (by have := World.block_lt_of_cell? _ _ hx176_0; first | rwa [add_block] at this | exact this) GW175.out); have hn176_1 : ad176.block ≠ gb175 := Nat.ne_of_lt (Nat.lt_of_lt_of_le (by have := World.block_lt_of_cell? _ _ hx176_0; first | rwa [add_block] at this | exact this) GW175.out); have hn176_2 : ad176.block ≠ gb175 := Nat.ne_of_lt (Nat.lt_of_lt_of_le (by have := World.block_lt_of_cell? _ _ hx176_0; first | rwa [add_block] at this | exact this) GW175.out); replace hx176_0 := (HB.out.cell (World.block_lt_of_cell? w _ hx176_0)).trans hx176_0; replace hx176_1 := (HB.out.cell (World.block_lt_of_cell? w _ hx176_1)).trans hx176_1; have HR176_1 := Aside0.mk hi176_1; have HC176_1 := Aside0.mk hl176_1; clear hi176_1 hl176_1; replace hx176_0 := (cell_far (p := ⟨gb175, 0, none⟩) (by first | (rw [add_block]; exact hn176_0) | (show (Addr.add _ _).block ≠ _; rw [add_block]; exact hn176_0) | exact hn176_0) (.int .i64 ((rd_T66 y170 x89_5).f0))).trans hx176_0; replace hx176_1 := (cell_far (p := ⟨gb175, 0, none⟩) (by first | (rw [add_block]; exact hn176_0) | (show (Addr.add _ _).block ≠ _; rw [add_block]; exact hn176_0) | exact hn176_0) (.int .i64 ((rd_T66 y170 x89_5).f0))).trans hx176_1; replace hx176_0 := (cell_far (p := ⟨gb175, 1, none⟩) (by first | (rw [add_block]; exact hn176_1) | (show (Addr.add _ _).block ≠ _; rw [add_block]; exact hn176_1) | exact hn176_1) (.int .i64 ((rd_T66 y170 x89_5).f1))).trans hx176_0; replace hx176_1 := (cell_far (p := ⟨gb175, 1, none⟩) (by first | (rw [add_block]; exact hn176_1) | (show (Addr.add _ _).block ≠ _; rw [add_block]; exact hn176_1) | exact hn176_1) (.int .i64 ((rd_T66 y170 x89_5).f1))).trans hx176_1; replace hx176_0 := (cell_far (p := ⟨gb175, 2, none⟩) (by first | (rw [add_block]; exact hn176_2) | (show (Addr.add _ _).block ≠ _; rw [add_block]; exact hn176_2) | exact hn176_2) (.int .i64 ((rd_T66 y170 x89_5).f2))).trans hx176_0; replace hx176_1 := (cell_far (p := ⟨gb175, 2, none⟩) (by first | (rw [add_block]; exact hn176_2) | (show (Addr.add _ _).block ≠ _; rw [add_block]; exact hn176_2) | exact hn176_2) (.int .i64 ((rd_T66 y170 x89_5).f2))).trans hx176_1; (try have hy176_0 := fun (n_ : Nat) => (show (((((w62.drewN n_).setCell ⟨gb175, 0, none⟩ (.int .i64 ((rd_T66 y170 x89_5).f0))).setCell ⟨gb175, 1, none⟩ (.int .i64 ((rd_T66 y170 x89_5).f1))).setCell ⟨gb175, 2, none⟩ (.int .i64 ((rd_T66 y170 x89_5).f2)))).cell? _ = some _ from hx176_0)); (try have hy176_1 := fun (n_ : Nat) => (show (((((w62.drewN n_).setCell ⟨gb175, 0, none⟩ (.int .i64 ((rd_T66 y170 x89_5).f0))).setCell ⟨gb175, 1, none⟩ (.int .i64 ((rd_T66 y170 x89_5).f1))).setCell ⟨gb175, 2, none⟩ (.int .i64 ((rd_T66 y170 x89_5).f2)))).cell? _ = some _ from hx176_1)); clear hn176_0; clear hn176_1; clear hn176_2; replace p176 := eq_true p176; replace q176 := eq_true q176; have p177 : 0 ≤ (((rd_T66 y170 x89_5).f0) : Int) := of_decide_eq_true (by first | (with_reducible assumption) | assumption); have q177 : ((rd_T66 y170 x89_5).f0) < (l0.length : Int) := of_decide_eq_true (by first | (with_reducible assumption) | assumption); obtain ⟨ad177, A177_1, c177_1, e177, hx177_0, hx177_1, hl177_1, hi177_1⟩ := at_T53 HR0.out ((rd_T66 y170 x89_5).f0) p177 q177; obtain rfl : ad176 = ad177 := (by injection e177); have hn177_0 : ad176.block ≠ gb175 := Nat.ne_of_lt (Nat.lt_of_lt_of_le (by have := World.block_lt_of_cell? _ _ hx177_0; first | rwa [add_block] at this | exact this) GW175.out); have hn177_1 : ad176.block ≠ gb175 := Nat.ne_of_lt (Nat.lt_of_lt_of_le (by have := World.block_lt_of_cell? _ _ hx177_0; first | rwa [add_block] at this | exact this) GW175.out); have hn177_2 : ad176.block ≠ gb175 := Nat.ne_of_lt (Nat.lt_of_lt_of_le (by have := World.block_lt_of_cell? _ _ hx177_0; first | rwa [add_block] at this | exact this) GW175.out); replace hx177_0 := (HB.out.cell (World.block_lt_of_cell? w _ hx177_0)).trans hx177_0; replace hx177_1 := (HB.out.cell (World.block_lt_of_cell? w _ hx177_1)).trans hx177_1; have HR177_1 := Aside0.mk hi177_1; have HC177_1 := Aside0.mk hl177_1; clear hi177_1 hl177_1; replace hx177_0 := (cell_far (p := ⟨gb175, 0, none⟩) (by first | (rw [add_block]; exact hn177_0) | (show (Addr.add _ _).block ≠ _; rw [add_block]; exact hn177_0) | exact hn177_0) (.int .i64 ((rd_T66 y170 x89_5).f0))).trans hx177_0; replace hx177_1 := (cell_far (p := ⟨gb175, 0, none⟩) (by first | (rw [add_block]; exact hn177_0) | (show (Addr.add _ _).block ≠ _; rw [add_block]; exact hn177_0) | exact hn177_0) (.int .i64 ((rd_T66 y170 x89_5).f0))).trans hx177_1; replace hx177_0 := (cell_far (p := ⟨gb175, 1, none⟩) (by first | (rw [add_block]; exact hn177_1) | (show (Addr.add _ _).block ≠ _; rw [add_block]; exact hn177_1) | exact hn177_1) (.int .i64 ((rd_T66 y170 x89_5).f1))).trans hx177_0; replace hx177_1 := (cell_far (p := ⟨gb175, 1, none⟩) (by first | (rw [add_block]; exact hn177_1) | (show (Addr.add _ _).block ≠ _; rw [add_block]; exact hn177_1) | exact hn177_1) (.int .i64 ((rd_T66 y170 x89_5).f1))).trans hx177_1; replace hx177_0 := (cell_far (p := ⟨gb175, 2, none⟩) (by first | (rw [add_block]; exact hn177_2) | (show (Addr.add _ _).block ≠ _; rw [add_block]; exact hn177_2) | exact hn177_2) (.int .i64 ((rd_T66 y170 x89_5).f2))).trans hx177_0; replace hx177_1 := (cell_far (p := ⟨gb175, 2, none⟩) (by first | (rw [add_block]; exact hn177_2) | (show (Addr.add _ _).block ≠ _; rw [add_block]; exact hn177_2) | exact hn177_2) (.int .i64 ((rd_T66 y170 x89_5).f2))).trans hx177_1; (try have hy177_0 := fun (n_ : Nat) => (show (((((w62.drewN n_).setCell ⟨gb175, 0, none⟩ (.int .i64 ((rd_T66 y170 x89_5).f0))).setCell ⟨gb175, 1, none⟩ (.int .i64 ((rd_T66 y170 x89_5).f1))).setCell ⟨gb175, 2, none⟩ (.int .i64 ((rd_T66 y170 x89_5).f2)))).cell? _ = some _ from hx177_0)); (try have hy177_1 := fun (n_ : Nat) => (show (((((w62.drewN n_).setCell ⟨gb175, 0, none⟩ (.int .i64 ((rd_T66 y170 x89_5).f0))).setCell ⟨gb175, 1, none⟩ (.int .i64 ((rd_T66 y170 x89_5).f1))).setCell ⟨gb175, 2, none⟩ (.int .i64 ((rd_T66 y170 x89_5).f2)))).cell? _ = some _ from hx177_1)); clear hn177_0; clear hn177_1; clear hn177_2; replace p177 := eq_true p177; replace q177 := eq_true q177)))
                                                                  go_ret2
                                                                  exact ⟨by first | rfl | (simp [errW_none, errW_some] <;> rfl) | (simp [*, errW_none, errW_some] <;> rfl), by repeat (first | (with_reducible first | exact HB.out | apply below_alloc | apply pw_below_drewN | apply below_drew1 | refine below_set ?_ GE164.out | refine below_set ?_ GE175.out) | exact HB.out)⟩
                                                                · rw [if_neg c61] at H
                                                                  have c61b0 : decide (((rd_T66 l2 x45_3).f2) < (wrap64 (((rd_T66 y170 x89_5).f2) + ((rd_T53 l0 ((rd_T66 y170 x89_5).f0)).f0)))) = false := decide_eq_false c61
                                                                  clear c61
                                                                  have H' := Aside0.mk H
                                                                  clear H
                                                                  have p174 : 0 ≤ (x89_5 : Int) := of_decide_eq_true (by first | (with_reducible assumption) | assumption)
                                                                  have q174 : x89_5 < (y170.length : Int) := of_decide_eq_true (by first | (with_reducible assumption) | assumption)
                                                                  obtain ⟨ad174, e174, hx174_0, hx174_1, hx174_2⟩ := at_T66 HR173.out x89_5 p174 q174
                                                                  obtain rfl : ad163 = ad174 := (by injection e174)
                                                                  try replace hx174_0 := (HB.out.cell (World.block_lt_of_cell? w _ hx174_0)).trans hx174_0
                                                                  try replace hx174_1 := (HB.out.cell (World.block_lt_of_cell? w _ hx174_1)).trans hx174_1
                                                                  try replace hx174_2 := (HB.out.cell (World.block_lt_of_cell? w _ hx174_2)).trans hx174_2
                                                                  replace p174 := eq_true p174
                                                                  replace q174 := eq_true q174
                                                                  go_wp2_with (first | ((with_reducible refine gate_dst (N := 13) rfl ?_); (try (refine gate_guard (by rfl) ?_; dsimp only)); refine box_event ?hg (N := 13) ?hd (cs := #[.int .i64 0, .int .i64 0, .int .i64 0]) (t := 66) ?hr ?_; (case hd => rfl); (case hg => rfl); (case hr => first | (go_simp; done) | (go_simp; rfl)); intro gb175 hg w66 hbox hb; have n0_ := Aside0.mk (Kd.R_below (by (with_reducible repeat (first | apply Kd.R_alloc | apply Kd.R_drewN | apply Kd.R_drew)); exact HO_8.out) hb); have n1_ := Aside0.mk (blk_below (g := gb164) (o := .cells #[.int .i64 ((rd_T66 l2 x45_3).f0), .int .i64 ((rd_T66 l2 x45_3).f1), .int .i64 ((rd_T66 l2 x45_3).f2)] 66 (0, 0)) (by (with_reducible repeat (first | refine blk_drewN ?_ _ | refine blk_drew ?_ | refine blk_alloc ?_ _)); exact BK164.out) hb); have n2_ := Aside0.mk (below_step (by repeat (first | (with_reducible first | exact HB.out | apply below_alloc | apply pw_below_drewN | apply below_drew1 | refine below_set ?_ GE164.out) | exact HB.out)) hb); have n3_ := Aside0.mk (hbox); have n4_ := Aside0.mk ((by rw [hg]; exact (below_size (by repeat (first | (with_reducible first | exact HB.out | apply below_alloc | apply pw_below_drewN | apply below_drew1 | refine below_set ?_ GE164.out) | exact HB.out))) : w.heap.size ≤ gb175)); have n5_ := Aside0.mk ((by rw [hg]; exact (below_size (by repeat (first | (with_reducible first | exact HB.out | apply below_alloc | apply pw_below_drewN | apply below_drew1 | refine below_set ?_ GE164.out) | exact HB.out))) : w.heap.size ≤ gb175)); have n6_ := Aside0.mk ((by rw [hg]; exact Nat.ne_of_lt (blk_lt (g := gb164) (o := .cells #[.int .i64 ((rd_T66 l2 x45_3).f0), .int .i64 ((rd_T66 l2 x45_3).f1), .int .i64 ((rd_T66 l2 x45_3).f2)] 66 (0, 0)) (by (with_reducible repeat (first | refine blk_drewN ?_ _ | refine blk_drew ?_ | refine blk_alloc ?_ _)); exact BK164.out)) : gb164 ≠ gb175)); have n7_ := Aside0.mk ((by rw [hg]; exact Nat.ne_of_gt (blk_lt (g := gb164) (o := .cells #[.int .i64 ((rd_T66 l2 x45_3).f0), .int .i64 ((rd_T66 l2 x45_3).f1), .int .i64 ((rd_T66 l2 x45_3).f2)] 66 (0, 0)) (by (with_reducible repeat (first | refine blk_drewN ?_ _ | refine blk_drew ?_ | refine blk_alloc ?_ _)); exact BK164.out)) : gb175 ≠ gb164)); clear HO_8; clear BK164; clear HB; have HO_8 := n0_; have BK164 := n1_; have HB := n2_; have BK175 := n3_; have GW175 := n4_; have GE175 := n5_; have NB164_175 := n6_; have NB175_164 := n7_; clear n0_ n1_ n2_ n3_ n4_ n5_ n6_ n7_; clear hb hbox hg; have hnb67 := NB175_164.out; have hnc67 := NB164_175.out; have hcz68_0 : w66.cell? ⟨gb175, 0, none⟩ = some (.int .i64 0) := (blk_cell BK175.out 0).trans rfl; have hcz68_1 : w66.cell? ⟨gb175, 1, none⟩ = some (.int .i64 0) := (blk_cell BK175.out 1).trans rfl; have hcz68_2 : w66.cell? ⟨gb175, 2, none⟩ = some (.int .i64 0) := (blk_cell BK175.out 2).trans rfl; have hfz68_0 := blk_frozen BK175.out 0; have hfz68_1 := blk_frozen BK175.out 1; have hfz68_2 := blk_frozen BK175.out 2; have hcz69_0 : w66.cell? ⟨gb164, 0, none⟩ = some (.int .i64 ((rd_T66 l2 x45_3).f0)) := (blk_cell BK164.out 0).trans rfl; have hcz69_1 : w66.cell? ⟨gb164, 1, none⟩ = some (.int .i64 ((rd_T66 l2 x45_3).f1)) := (blk_cell BK164.out 1).trans rfl; have hcz69_2 : w66.cell? ⟨gb164, 2, none⟩ = some (.int .i64 ((rd_T66 l2 x45_3).f2)) := (blk_cell BK164.out 2).trans rfl; have hfz69_0 := blk_frozen BK164.out 0; have hfz69_1 := blk_frozen BK164.out 1; have hfz69_2 := blk_frozen BK164.out 2; have p176 : 0 ≤ (((rd_T66 l2 x45_3).f0) : Int) := of_decide_eq_true (by first | (with_reducible assumption) | assumption); have q176 : ((rd_T66 l2 x45_3).f0) < (l0.length : Int) := of_decide_eq_true (by first | (with_reducible assumption) | assumption); obtain ⟨ad176, A176_1, c176_1, e176, hx176_0, hx176_1, hl176_1, hi176_1⟩ := at_T53 HR0.out ((rd_T66 l2 x45_3).f0) p176 q176; cases e176; have hn176_0 : ad176.block ≠ gb175 := Nat.ne_of_lt (Nat.lt_of_lt_of_le (by have := World.block_lt_of_cell? _ _ hx176_0; first | rwa [add_block] at this | exact this) GW175.out); have hn176_1 : ad176.block ≠ gb175 := Nat.ne_of_lt (Nat.lt_of_lt_of_le (by have := World.block_lt_of_cell? _ _ hx176_0; first | rwa [add_block] at this | exact this) GW175.out); have hn176_2 : ad176.block ≠ gb175 := Nat.ne_of_lt (Nat.lt_of_lt_of_le (by have := World.block_lt_of_cell? _ _ hx176_0; first | rwa [add_block] at this | exact this) GW175.out); replace hx176_0 := (HB.out.cell (World.block_lt_of_cell? w _ hx176_0)).trans hx176_0; replace hx176_1 := (HB.out.cell (World.block_lt_of_cell? w _ hx176_1)).trans hx176_1; have HR176_1 := Aside0.mk hi176_1; have HC176_1 := Aside0.mk hl176_1; clear hi176_1 hl176_1; replace hx176_0 := (cell_far (p := ⟨gb175, 0, none⟩) (by first | (rw [add_block]; exact hn176_0) | (show (Addr.add _ _).block ≠ _; rw [add_block]; exact hn176_0) | exact hn176_0) (.int .i64 ((rd_T66 y170 x89_5).f0))).trans hx176_0; replace hx176_1 := (cell_far (p := ⟨gb175, 0, none⟩) (by first | (rw [add_block]; exact hn176_0) | (show (Addr.add _ _).block ≠ _; rw [add_block]; exact hn176_0) | exact hn176_0) (.int .i64 ((rd_T66 y170 x89_5).f0))).trans hx176_1; replace hx176_0 := (cell_far (p := ⟨gb175, 1, none⟩) (by first | (rw [add_block]; exact hn176_1) | (show (Addr.add _ _).block ≠ _; rw [add_block]; exact hn176_1) | exact hn176_1) (.int .i64 ((rd_T66 y170 x89_5).f1))).trans hx176_0; replace hx176_1 := (cell_far (p := ⟨gb175, 1, none⟩) (by first | (rw [add_block]; exact hn176_1) | (show (Addr.add _ _).block ≠ _; rw [add_block]; exact hn176_1) | exact hn176_1) (.int .i64 ((rd_T66 y170 x89_5).f1))).trans hx176_1; replace hx176_0 := (cell_far (p := ⟨gb175, 2, none⟩) (by first | (rw [add_block]; exact hn176_2) | (show (Addr.add _ _).block ≠ _; rw [add_block]; exact hn176_2) | exact hn176_2) (.int .i64 ((rd_T66 y170 x89_5).f2))).trans hx176_0; replace hx176_1 := (cell_far (p := ⟨gb175, 2, none⟩) (by first | (rw [add_block]; exact hn176_2) | (show (Addr.add _ _).block ≠ _; rw [add_block]; exact hn176_2) | exact hn176_2) (.int .i64 ((rd_T66 y170 x89_5).f2))).trans hx176_1; (try have hy176_0 := fun (n_ : Nat) => (show (((((w66.drewN n_).setCell ⟨gb175, 0, none⟩ (.int .i64 ((rd_T66 y170 x89_5).f0))).setCell ⟨gb175, 1, none⟩ (.int .i64 ((rd_T66 y170 x89_5).f1))).setCell ⟨gb175, 2, none⟩ (.int .i64 ((rd_T66 y170 x89_5).f2)))).cell? _ = some _ from hx176_0)); (try have hy176_1 := fun (n_ : Nat) => (show (((((w66.drewN n_).setCell ⟨gb175, 0, none⟩ (.int .i64 ((rd_T66 y170 x89_5).f0))).setCell ⟨gb175, 1, none⟩ (.int .i64 ((rd_T66 y170 x89_5).f1))).setCell ⟨gb175, 2, none⟩ (.int .i64 ((rd_T66 y170 x89_5).f2)))).cell? _ = some _ from hx176_1)); clear hn176_0; clear hn176_1; clear hn176_2; replace p176 := eq_true p176; replace q176 := eq_true q176; have p177 : 0 ≤ (((rd_T66 y170 x89_5).f0) : Int) := of_decide_eq_true (by first | (with_reducible assumption) | assumption); have q177 : ((rd_T66 y170 x89_5).f0) < (l0.length : Int) := of_decide_eq_true (by first | (with_reducible assumption) | assumption); obtain ⟨ad177, A177_1, c177_1, e177, hx177_0, hx177_1, hl177_1, hi177_1⟩ := at_T53 HR0.out ((rd_T66 y170 x89_5).f0) p177 q177; obtain rfl : ad176 = ad177 := (by injection e177); have hn177_0 : ad176.block ≠ gb175 := Nat.ne_of_lt (Nat.lt_of_lt_of_le (by have := World.block_lt_of_cell? _ _ hx177_0; first | rwa [add_block] at this | exact this) GW175.out); have hn177_1 : ad176.block ≠ gb175 := Nat.ne_of_lt (Nat.lt_of_lt_of_le (by have := World.block_lt_of_cell? _ _ hx177_0; first | rwa [add_block] at this | exact this) GW175.out); have hn177_2 : ad176.block ≠ gb175 := Nat.ne_of_lt (Nat.lt_of_lt_of_le (by have := World.block_lt_of_cell? _ _ hx177_0; first | rwa [add_block] at this | exact this) GW175.out); replace hx177_0 := (HB.out.cell (World.block_lt_of_cell? w _ hx177_0)).trans hx177_0; replace hx177_1 := (HB.out.cell (World.block_lt_of_cell? w _ hx177_1)).trans hx177_1; have HR177_1 := Aside0.mk hi177_1; have HC177_1 := Aside0.mk hl177_1; clear hi177_1 hl177_1; replace hx177_0 := (cell_far (p := ⟨gb175, 0, none⟩) (by first | (rw [add_block]; exact hn177_0) | (show (Addr.add _ _).block ≠ _; rw [add_block]; exact hn177_0) | exact hn177_0) (.int .i64 ((rd_T66 y170 x89_5).f0))).trans hx177_0; replace hx177_1 := (cell_far (p := ⟨gb175, 0, none⟩) (by first | (rw [add_block]; exact hn177_0) | (show (Addr.add _ _).block ≠ _; rw [add_block]; exact hn177_0) | exact hn177_0) (.int .i64 ((rd_T66 y170 x89_5).f0))).trans hx177_1; replace hx177_0 := (cell_far (p := ⟨gb175, 1, none⟩) (by first | (rw [add_block]; exact hn177_1) | (show (Addr.add _ _).block ≠ _; rw [add_block]; exact hn177_1) | exact hn177_1) (.int .i64 ((rd_T66 y170 x89_5).f1))).trans hx177_0; replace hx177_1 := (cell_far (p := ⟨gb175, 1, none⟩) (by first | (rw [add_block]; exact hn177_1) | (show (Addr.add _ _).block ≠ _; rw [add_block]; exact hn177_1) | exact hn177_1) (.int .i64 ((rd_T66 y170 x89_5).f1))).trans hx177_1; replace hx177_0 := (cell_far (p := ⟨gb175, 2, none⟩) (by first | (rw [add_block]; exact hn177_2) | (show (Addr.add _ _).block ≠ _; rw [add_block]; exact hn177_2) | exact hn177_2) (.int .i64 ((rd_T66 y170 x89_5).f2))).trans hx177_0; replace hx177_1 := (cell_far (p := ⟨gb175, 2, none⟩) (by first | (rw [add_block]; exact hn177_2) | (show (Addr.add _ _).block ≠ _; rw [add_block]; exact hn177_2) | exact hn177_2) (.int .i64 ((rd_T66 y170 x89_5).f2))).trans hx177_1; (try have hy177_0 := fun (n_ : Nat) => (show (((((w66.drewN n_).setCell ⟨gb175, 0, none⟩ (.int .i64 ((rd_T66 y170 x89_5).f0))).setCell ⟨gb175, 1, none⟩ (.int .i64 ((rd_T66 y170 x89_5).f1))).setCell ⟨gb175, 2, none⟩ (.int .i64 ((rd_T66 y170 x89_5).f2)))).cell? _ = some _ from hx177_0)); (try have hy177_1 := fun (n_ : Nat) => (show (((((w66.drewN n_).setCell ⟨gb175, 0, none⟩ (.int .i64 ((rd_T66 y170 x89_5).f0))).setCell ⟨gb175, 1, none⟩ (.int .i64 ((rd_T66 y170 x89_5).f1))).setCell ⟨gb175, 2, none⟩ (.int .i64 ((rd_T66 y170 x89_5).f2)))).cell? _ = some _ from hx177_1)); clear hn177_0; clear hn177_1; clear hn177_2; replace p177 := eq_true p177; replace q177 := eq_true q177))
                                                                  repeat (go_quiet (first | ((with_reducible refine gate_dst (N := 13) rfl ?_); (try (refine gate_guard (by rfl) ?_; dsimp only)); refine box_event ?hg (N := 13) ?hd (cs := #[.int .i64 0, .int .i64 0, .int .i64 0]) (t := 66) ?hr ?_; (case hd => rfl); (case hg => rfl); (case hr => first | (go_simp; done) | (go_simp; rfl)); intro gb175 hg w66 hbox hb; have n0_ := Aside0.mk (Kd.R_below (by (with_reducible repeat (first | apply Kd.R_alloc | apply Kd.R_drewN | apply Kd.R_drew)); exact HO_8.out) hb); have n1_ := Aside0.mk (blk_below (g := gb164) (o := .cells #[.int .i64 ((rd_T66 l2 x45_3).f0), .int .i64 ((rd_T66 l2 x45_3).f1), .int .i64 ((rd_T66 l2 x45_3).f2)] 66 (0, 0)) (by (with_reducible repeat (first | refine blk_drewN ?_ _ | refine blk_drew ?_ | refine blk_alloc ?_ _)); exact BK164.out) hb); have n2_ := Aside0.mk (below_step (by repeat (first | (with_reducible first | exact HB.out | apply below_alloc | apply pw_below_drewN | apply below_drew1 | refine below_set ?_ GE164.out) | exact HB.out)) hb); have n3_ := Aside0.mk (hbox); have n4_ := Aside0.mk ((by rw [hg]; exact (below_size (by repeat (first | (with_reducible first | exact HB.out | apply below_alloc | apply pw_below_drewN | apply below_drew1 | refine below_set ?_ GE164.out) | exact HB.out))) : w.heap.size ≤ gb175)); have n5_ := Aside0.mk ((by rw [hg]; exact (below_size (by repeat (first | (with_reducible first | exact HB.out | apply below_alloc | apply pw_below_drewN | apply below_drew1 | refine below_set ?_ GE164.out) | exact HB.out))) : w.heap.size ≤ gb175)); have n6_ := Aside0.mk ((by rw [hg]; exact Nat.ne_of_lt (blk_lt (g := gb164) (o := .cells #[.int .i64 ((rd_T66 l2 x45_3).f0), .int .i64 ((rd_T66 l2 x45_3).f1), .int .i64 ((rd_T66 l2 x45_3).f2)] 66 (0, 0)) (by (with_reducible repeat (first | refine blk_drewN ?_ _ | refine blk_drew ?_ | refine blk_alloc ?_ _)); exact BK164.out)) : gb164 ≠ gb175)); have n7_ := Aside0.mk ((by rw [hg]; exact Nat.ne_of_gt (blk_lt (g := gb164) (o := .cells #[.int .i64 ((rd_T66 l2 x45_3).f0), .int .i64 ((rd_T66 l2 x45_3).f1), .int .i64 ((rd_T66 l2 x45_3).f2)] 66 (0, 0)) (by (with_reducible repeat (first | refine blk_drewN ?_ _ | refine blk_drew ?_ | refine blk_alloc ?_ _)); exact BK164.out)) : gb175 ≠ gb164)); clear HO_8; clear BK164; clear HB; have HO_8 := n0_; have BK164 := n1_; have HB := n2_; have BK175 := n3_; have GW175 := n4_; have GE175 := n5_; have NB164_175 := n6_; have NB175_164 := n7_; clear n0_ n1_ n2_ n3_ n4_ n5_ n6_ n7_; clear hb hbox hg; have hnb67 := NB175_164.out; have hnc67 := NB164_175.out; have hcz68_0 : w66.cell? ⟨gb175, 0, none⟩ = some (.int .i64 0) := (blk_cell BK175.out 0).trans rfl; have hcz68_1 : w66.cell? ⟨gb175, 1, none⟩ = some (.int .i64 0) := (blk_cell BK175.out 1).trans rfl; have hcz68_2 : w66.cell? ⟨gb175, 2, none⟩ = some (.int .i64 0) := (blk_cell BK175.out 2).trans rfl; have hfz68_0 := blk_frozen BK175.out 0; have hfz68_1 := blk_frozen BK175.out 1; have hfz68_2 := blk_frozen BK175.out 2; have hcz69_0 : w66.cell? ⟨gb164, 0, none⟩ = some (.int .i64 ((rd_T66 l2 x45_3).f0)) := (blk_cell BK164.out 0).trans rfl; have hcz69_1 : w66.cell? ⟨gb164, 1, none⟩ = some (.int .i64 ((rd_T66 l2 x45_3).f1)) := (blk_cell BK164.out 1).trans rfl; have hcz69_2 : w66.cell? ⟨gb164, 2, none⟩ = some (.int .i64 ((rd_T66 l2 x45_3).f2)) := (blk_cell BK164.out 2).trans rfl; have hfz69_0 := blk_frozen BK164.out 0; have hfz69_1 := blk_frozen BK164.out 1; have hfz69_2 := blk_frozen BK164.out 2; have p176 : 0 ≤ (((rd_T66 l2 x45_3).f0) : Int) := of_decide_eq_true (by first | (with_reducible assumption) | assumption); have q176 : ((rd_T66 l2 x45_3).f0) < (l0.length : Int) := of_decide_eq_true (by first | (with_reducible assumption) | assumption); obtain ⟨ad176, A176_1, c176_1, e176, hx176_0, hx176_1, hl176_1, hi176_1⟩ := at_T53 HR0.out ((rd_T66 l2 x45_3).f0) p176 q176; cases e176; have hn176_0 : ad176.block ≠ gb175 := Nat.ne_of_lt (Nat.lt_of_lt_of_le (by have := World.block_lt_of_cell? _ _ hx176_0; first | rwa [add_block] at this | exact this) GW175.out); have hn176_1 : ad176.block ≠ gb175 := Nat.ne_of_lt (Nat.lt_of_lt_of_le (by have := World.block_lt_of_cell? _ _ hx176_0; first | rwa [add_block] at this | exact this) GW175.out); have hn176_2 : ad176.block ≠ gb175 := Nat.ne_of_lt (Nat.lt_of_lt_of_le (by have := World.block_lt_of_cell? _ _ hx176_0; first | rwa [add_block] at this | exact this) GW175.out); replace hx176_0 := (HB.out.cell (World.block_lt_of_cell? w _ hx176_0)).trans hx176_0; replace hx176_1 := (HB.out.cell (World.block_lt_of_cell? w _ hx176_1)).trans hx176_1; have HR176_1 := Aside0.mk hi176_1; have HC176_1 := Aside0.mk hl176_1; clear hi176_1 hl176_1; replace hx176_0 := (cell_far (p := ⟨gb175, 0, none⟩) (by first | (rw [add_block]; exact hn176_0) | (show (Addr.add _ _).block ≠ _; rw [add_block]; exact hn176_0) | exact hn176_0) (.int .i64 ((rd_T66 y170 x89_5).f0))).trans hx176_0; replace hx176_1 := (cell_far (p := ⟨gb175, 0, none⟩) (by first | (rw [add_block]; exact hn176_0) | (show (Addr.add _ _).block ≠ _; rw [add_block]; exact hn176_0) | exact hn176_0) (.int .i64 ((rd_T66 y170 x89_5).f0))).trans hx176_1; replace hx176_0 := (cell_far (p := ⟨gb175, 1, none⟩) (by first | (rw [add_block]; exact hn176_1) | (show (Addr.add _ _).block ≠ _; rw [add_block]; exact hn176_1) | exact hn176_1) (.int .i64 ((rd_T66 y170 x89_5).f1))).trans hx176_0; replace hx176_1 := (cell_far (p := ⟨gb175, 1, none⟩) (by first | (rw [add_block]; exact hn176_1) | (show (Addr.add _ _).block ≠ _; rw [add_block]; exact hn176_1) | exact hn176_1) (.int .i64 ((rd_T66 y170 x89_5).f1))).trans hx176_1; replace hx176_0 := (cell_far (p := ⟨gb175, 2, none⟩) (by first | (rw [add_block]; exact hn176_2) | (show (Addr.add _ _).block ≠ _; rw [add_block]; exact hn176_2) | exact hn176_2) (.int .i64 ((rd_T66 y170 x89_5).f2))).trans hx176_0; replace hx176_1 := (cell_far (p := ⟨gb175, 2, none⟩) (by first | (rw [add_block]; exact hn176_2) | (show (Addr.add _ _).block ≠ _; rw [add_block]; exact hn176_2) | exact hn176_2) (.int .i64 ((rd_T66 y170 x89_5).f2))).trans hx176_1; (try have hy176_0 := fun (n_ : Nat) => (show (((((w66.drewN n_).setCell ⟨gb175, 0, none⟩ (.int .i64 ((rd_T66 y170 x89_5).f0))).setCell ⟨gb175, 1, none⟩ (.int .i64 ((rd_T66 y170 x89_5).f1))).setCell ⟨gb175, 2, none⟩ (.int .i64 ((rd_T66 y170 x89_5).f2)))).cell? _ = some _ from hx176_0)); (try have hy176_1 := fun (n_ : Nat) => (show (((((w66.drewN n_).setCell ⟨gb175, 0, none⟩ (.int .i64 ((rd_T66 y170 x89_5).f0))).setCell ⟨gb175, 1, none⟩ (.int .i64 ((rd_T66 y170 x89_5).f1))).setCell ⟨gb175, 2, none⟩ (.int .i64 ((rd_T66 y170 x89_5).f2)))).cell? _ = some _ from hx176_1)); clear hn176_0; clear hn176_1; clear hn176_2; replace p176 := eq_true p176; replace q176 := eq_true q176; have p177 : 0 ≤ (((rd_T66 y170 x89_5).f0) : Int) := of_decide_eq_true (by first | (with_reducible assumption) | assumption); have q177 : ((rd_T66 y170 x89_5).f0) < (l0.length : Int) := of_decide_eq_true (by first | (with_reducible assumption) | assumption); obtain ⟨ad177, A177_1, c177_1, e177, hx177_0, hx177_1, hl177_1, hi177_1⟩ := at_T53 HR0.out ((rd_T66 y170 x89_5).f0) p177 q177; obtain rfl : ad176 = ad177 := (by injection e177); have hn177_0 : ad176.block ≠ gb175 := Nat.ne_of_lt (Nat.lt_of_lt_of_le (by have := World.block_lt_of_cell? _ _ hx177_0; first | rwa [add_block] at this | exact this) GW175.out); have hn177_1 : ad176.block ≠ gb175 := Nat.ne_of_lt (Nat.lt_of_lt_of_le (by have := World.block_lt_of_cell? _ _ hx177_0; first | rwa [add_block] at this | exact this) GW175.out); have hn177_2 : ad176.block ≠ gb175 := Nat.ne_of_lt (Nat.lt_of_lt_of_le (by have := World.block_lt_of_cell? _ _ hx177_0; first | rwa [add_block] at this | exact this) GW175.out); replace hx177_0 := (HB.out.cell (World.block_lt_of_cell? w _ hx177_0)).trans hx177_0; replace hx177_1 := (HB.out.cell (World.block_lt_of_cell? w _ hx177_1)).trans hx177_1; have HR177_1 := Aside0.mk hi177_1; have HC177_1 := Aside0.mk hl177_1; clear hi177_1 hl177_1; replace hx177_0 := (cell_far (p := ⟨gb175, 0, none⟩) (by first | (rw [add_block]; exact hn177_0) | (show (Addr.add _ _).block ≠ _; rw [add_block]; exact hn177_0) | exact hn177_0) (.int .i64 ((rd_T66 y170 x89_5).f0))).trans hx177_0; replace hx177_1 := (cell_far (p := ⟨gb175, 0, none⟩) (by first | (rw [add_block]; exact hn177_0) | (show (Addr.add _ _).block ≠ _; rw [add_block]; exact hn177_0) | exact hn177_0) (.int .i64 ((rd_T66 y170 x89_5).f0))).trans hx177_1; replace hx177_0 := (cell_far (p := ⟨gb175, 1, none⟩) (by first | (rw [add_block]; exact hn177_1) | (show (Addr.add _ _).block ≠ _; rw [add_block]; exact hn177_1) | exact hn177_1) (.int .i64 ((rd_T66 y170 x89_5).f1))).trans hx177_0; replace hx177_1 := (cell_far (p := ⟨gb175, 1, none⟩) (by first | (rw [add_block]; exact hn177_1) | (show (Addr.add _ _).block ≠ _; rw [add_block]; exact hn177_1) | exact hn177_1) (.int .i64 ((rd_T66 y170 x89_5).f1))).trans hx177_1; replace hx177_0 := (cell_far (p := ⟨gb175, 2, none⟩) (by first | (rw [add_block]; exact hn177_2) | (show (Addr.add _ _).block ≠ _; rw [add_block]; exact hn177_2) | exact hn177_2) (.int .i64 ((rd_T66 y170 x89_5).f2))).trans hx177_0; replace hx177_1 := (cell_far (p := ⟨gb175, 2, none⟩) (by first | (rw [add_block]; exact hn177_2) | (show (Addr.add _ _).block ≠ _; rw [add_block]; exact hn177_2) | exact hn177_2) (.int .i64 ((rd_T66 y170 x89_5).f2))).trans hx177_1; (try have hy177_0 := fun (n_ : Nat) => (show (((((w66.drewN n_).setCell ⟨gb175, 0, none⟩ (.int .i64 ((rd_T66 y170 x89_5).f0))).setCell ⟨gb175, 1, none⟩ (.int .i64 ((rd_T66 y170 x89_5).f1))).setCell ⟨gb175, 2, none⟩ (.int .i64 ((rd_T66 y170 x89_5).f2)))).cell? _ = some _ from hx177_0)); (try have hy177_1 := fun (n_ : Nat) => (show (((((w66.drewN n_).setCell ⟨gb175, 0, none⟩ (.int .i64 ((rd_T66 y170 x89_5).f0))).setCell ⟨gb175, 1, none⟩ (.int .i64 ((rd_T66 y170 x89_5).f1))).setCell ⟨gb175, 2, none⟩ (.int .i64 ((rd_T66 y170 x89_5).f2)))).cell? _ = some _ from hx177_1)); clear hn177_0; clear hn177_1; clear hn177_2; replace p177 := eq_true p177; replace q177 := eq_true q177)); try go_wp2_with (first | ((with_reducible refine gate_dst (N := 13) rfl ?_); (try (refine gate_guard (by rfl) ?_; dsimp only)); refine box_event ?hg (N := 13) ?hd (cs := #[.int .i64 0, .int .i64 0, .int .i64 0]) (t := 66) ?hr ?_; (case hd => rfl); (case hg => rfl); (case hr => first | (go_simp; done) | (go_simp; rfl)); intro gb175 hg w66 hbox hb; have n0_ := Aside0.mk (Kd.R_below (by (with_reducible repeat (first | apply Kd.R_alloc | apply Kd.R_drewN | apply Kd.R_drew)); exact HO_8.out) hb); have n1_ := Aside0.mk (blk_below (g := gb164) (o := .cells #[.int .i64 ((rd_T66 l2 x45_3).f0), .int .i64 ((rd_T66 l2 x45_3).f1), .int .i64 ((rd_T66 l2 x45_3).f2)] 66 (0, 0)) (by (with_reducible repeat (first | refine blk_drewN ?_ _ | refine blk_drew ?_ | refine blk_alloc ?_ _)); exact BK164.out) hb); have n2_ := Aside0.mk (below_step (by repeat (first | (with_reducible first | exact HB.out | apply below_alloc | apply pw_below_drewN | apply below_drew1 | refine below_set ?_ GE164.out) | exact HB.out)) hb); have n3_ := Aside0.mk (hbox); have n4_ := Aside0.mk ((by rw [hg]; exact (below_size (by repeat (first | (with_reducible first | exact HB.out | apply below_alloc | apply pw_below_drewN | apply below_drew1 | refine below_set ?_ GE164.out) | exact HB.out))) : w.heap.size ≤ gb175)); have n5_ := Aside0.mk ((by rw [hg]; exact (below_size (by repeat (first | (with_reducible first | exact HB.out | apply below_alloc | apply pw_below_drewN | apply below_drew1 | refine below_set ?_ GE164.out) | exact HB.out))) : w.heap.size ≤ gb175)); have n6_ := Aside0.mk ((by rw [hg]; exact Nat.ne_of_lt (blk_lt (g := gb164) (o := .cells #[.int .i64 ((rd_T66 l2 x45_3).f0), .int .i64 ((rd_T66 l2 x45_3).f1), .int .i64 ((rd_T66 l2 x45_3).f2)] 66 (0, 0)) (by (with_reducible repeat (first | refine blk_drewN ?_ _ | refine blk_drew ?_ | refine blk_alloc ?_ _)); exact BK164.out)) : gb164 ≠ gb175)); have n7_ := Aside0.mk ((by rw [hg]; exact Nat.ne_of_gt (blk_lt (g := gb164) (o := .cells #[.int .i64 ((rd_T66 l2 x45_3).f0), .int .i64 ((rd_T66 l2 x45_3).f1), .int .i64 ((rd_T66 l2 x45_3).f2)] 66 (0, 0)) (by (with_reducible repeat (first | refine blk_drewN ?_ _ | refine blk_drew ?_ | refine blk_alloc ?_ _)); exact BK164.out)) : gb175 ≠ gb164)); clear HO_8; clear BK164; clear HB; have HO_8 := n0_; have BK164 := n1_; have HB := n2_; have BK175 := n3_; have GW175 := n4_; have GE175 := n5_; have NB164_175 := n6_; have NB175_164 := n7_; clear n0_ n1_ n2_ n3_ n4_ n5_ n6_ n7_; clear hb hbox hg; have hnb67 := NB175_164.out; have hnc67 := NB164_175.out; have hcz68_0 : w66.cell? ⟨gb175, 0, none⟩ = some (.int .i64 0) := (blk_cell BK175.out 0).trans rfl; have hcz68_1 : w66.cell? ⟨gb175, 1, none⟩ = some (.int .i64 0) := (blk_cell BK175.out 1).trans rfl; have hcz68_2 : w66.cell? ⟨gb175, 2, none⟩ = some (.int .i64 0) := (blk_cell BK175.out 2).trans rfl; have hfz68_0 := blk_frozen BK175.out 0; have hfz68_1 := blk_frozen BK175.out 1; have hfz68_2 := blk_frozen BK175.out 2; have hcz69_0 : w66.cell? ⟨gb164, 0, none⟩ = some (.int .i64 ((rd_T66 l2 x45_3).f0)) := (blk_cell BK164.out 0).trans rfl; have hcz69_1 : w66.cell? ⟨gb164, 1, none⟩ = some (.int .i64 ((rd_T66 l2 x45_3).f1)) := (blk_cell BK164.out 1).trans rfl; have hcz69_2 : w66.cell? ⟨gb164, 2, none⟩ = some (.int .i64 ((rd_T66 l2 x45_3).f2)) := (blk_cell BK164.out 2).trans rfl; have hfz69_0 := blk_frozen BK164.out 0; have hfz69_1 := blk_frozen BK164.out 1; have hfz69_2 := blk_frozen BK164.out 2; have p176 : 0 ≤ (((rd_T66 l2 x45_3).f0) : Int) := of_decide_eq_true (by first | (with_reducible assumption) | assumption); have q176 : ((rd_T66 l2 x45_3).f0) < (l0.length : Int) := of_decide_eq_true (by first | (with_reducible assumption) | assumption); obtain ⟨ad176, A176_1, c176_1, e176, hx176_0, hx176_1, hl176_1, hi176_1⟩ := at_T53 HR0.out ((rd_T66 l2 x45_3).f0) p176 q176; cases e176; have hn176_0 : ad176.block ≠ gb175 := Nat.ne_of_lt (Nat.lt_of_lt_of_le (by have := World.block_lt_of_cell? _ _ hx176_0; first | rwa [add_block] at this | exact this) GW175.out); have hn176_1 : ad176.block ≠ gb175 := Nat.ne_of_lt (Nat.lt_of_lt_of_le (by have := World.block_lt_of_cell? _ _ hx176_0; first | rwa [add_block] at this | exact this) GW175.out); have hn176_2 : ad176.block ≠ gb175 := Nat.ne_of_lt (Nat.lt_of_lt_of_le (by have := World.block_lt_of_cell? _ _ hx176_0; first | rwa [add_block] at this | exact this) GW175.out); replace hx176_0 := (HB.out.cell (World.block_lt_of_cell? w _ hx176_0)).trans hx176_0; replace hx176_1 := (HB.out.cell (World.block_lt_of_cell? w _ hx176_1)).trans hx176_1; have HR176_1 := Aside0.mk hi176_1; have HC176_1 := Aside0.mk hl176_1; clear hi176_1 hl176_1; replace hx176_0 := (cell_far (p := ⟨gb175, 0, none⟩) (by first | (rw [add_block]; exact hn176_0) | (show (Addr.add _ _).block ≠ _; rw [add_block]; exact hn176_0) | exact hn176_0) (.int .i64 ((rd_T66 y170 x89_5).f0))).trans hx176_0; replace hx176_1 := (cell_far (p := ⟨gb175, 0, none⟩) (by first | (rw [add_block]; exact hn176_0) | (show (Addr.add _ _).block ≠ _; rw [add_block]; exact hn176_0) | exact hn176_0) (.int .i64 ((rd_T66 y170 x89_5).f0))).trans hx176_1; replace hx176_0 := (cell_far (p := ⟨gb175, 1, none⟩) (by first | (rw [add_block]; exact hn176_1) | (show (Addr.add _ _).block ≠ _; rw [add_block]; exact hn176_1) | exact hn176_1) (.int .i64 ((rd_T66 y170 x89_5).f1))).trans hx176_0; replace hx176_1 := (cell_far (p := ⟨gb175, 1, none⟩) (by first | (rw [add_block]; exact hn176_1) | (show (Addr.add _ _).block ≠ _; rw [add_block]; exact hn176_1) | exact hn176_1) (.int .i64 ((rd_T66 y170 x89_5).f1))).trans hx176_1; replace hx176_0 := (cell_far (p := ⟨gb175, 2, none⟩) (by first | (rw [add_block]; exact hn176_2) | (show (Addr.add _ _).block ≠ _; rw [add_block]; exact hn176_2) | exact hn176_2) (.int .i64 ((rd_T66 y170 x89_5).f2))).trans hx176_0; replace hx176_1 := (cell_far (p := ⟨gb175, 2, none⟩) (by first | (rw [add_block]; exact hn176_2) | (show (Addr.add _ _).block ≠ _; rw [add_block]; exact hn176_2) | exact hn176_2) (.int .i64 ((rd_T66 y170 x89_5).f2))).trans hx176_1; (try have hy176_0 := fun (n_ : Nat) => (show (((((w66.drewN n_).setCell ⟨gb175, 0, none⟩ (.int .i64 ((rd_T66 y170 x89_5).f0))).setCell ⟨gb175, 1, none⟩ (.int .i64 ((rd_T66 y170 x89_5).f1))).setCell ⟨gb175, 2, none⟩ (.int .i64 ((rd_T66 y170 x89_5).f2)))).cell? _ = some _ from hx176_0)); (try have hy176_1 := fun (n_ : Nat) => (show (((((w66.drewN n_).setCell ⟨gb175, 0, none⟩ (.int .i64 ((rd_T66 y170 x89_5).f0))).setCell ⟨gb175, 1, none⟩ (.int .i64 ((rd_T66 y170 x89_5).f1))).setCell ⟨gb175, 2, none⟩ (.int .i64 ((rd_T66 y170 x89_5).f2)))).cell? _ = some _ from hx176_1)); clear hn176_0; clear hn176_1; clear hn176_2; replace p176 := eq_true p176; replace q176 := eq_true q176; have p177 : 0 ≤ (((rd_T66 y170 x89_5).f0) : Int) := of_decide_eq_true (by first | (with_reducible assumption) | assumption); have q177 : ((rd_T66 y170 x89_5).f0) < (l0.length : Int) := of_decide_eq_true (by first | (with_reducible assumption) | assumption); obtain ⟨ad177, A177_1, c177_1, e177, hx177_0, hx177_1, hl177_1, hi177_1⟩ := at_T53 HR0.out ((rd_T66 y170 x89_5).f0) p177 q177; obtain rfl : ad176 = ad177 := (by injection e177); have hn177_0 : ad176.block ≠ gb175 := Nat.ne_of_lt (Nat.lt_of_lt_of_le (by have := World.block_lt_of_cell? _ _ hx177_0; first | rwa [add_block] at this | exact this) GW175.out); have hn177_1 : ad176.block ≠ gb175 := Nat.ne_of_lt (Nat.lt_of_lt_of_le (by have := World.block_lt_of_cell? _ _ hx177_0; first | rwa [add_block] at this | exact this) GW175.out); have hn177_2 : ad176.block ≠ gb175 := Nat.ne_of_lt (Nat.lt_of_lt_of_le (by have := World.block_lt_of_cell? _ _ hx177_0; first | rwa [add_block] at this | exact this) GW175.out); replace hx177_0 := (HB.out.cell (World.block_lt_of_cell? w _ hx177_0)).trans hx177_0; replace hx177_1 := (HB.out.cell (World.block_lt_of_cell? w _ hx177_1)).trans hx177_1; have HR177_1 := Aside0.mk hi177_1; have HC177_1 := Aside0.mk hl177_1; clear hi177_1 hl177_1; replace hx177_0 := (cell_far (p := ⟨gb175, 0, none⟩) (by first | (rw [add_block]; exact hn177_0) | (show (Addr.add _ _).block ≠ _; rw [add_block]; exact hn177_0) | exact hn177_0) (.int .i64 ((rd_T66 y170 x89_5).f0))).trans hx177_0; replace hx177_1 := (cell_far (p := ⟨gb175, 0, none⟩) (by first | (rw [add_block]; exact hn177_0) | (show (Addr.add _ _).block ≠ _; rw [add_block]; exact hn177_0) | exact hn177_0) (.int .i64 ((rd_T66 y170 x89_5).f0))).trans hx177_1; replace hx177_0 := (cell_far (p := ⟨gb175, 1, none⟩) (by first | (rw [add_block]; exact hn177_1) | (show (Addr.add _ _).block ≠ _; rw [add_block]; exact hn177_1) | exact hn177_1) (.int .i64 ((rd_T66 y170 x89_5).f1))).trans hx177_0; replace hx177_1 := (cell_far (p := ⟨gb175, 1, none⟩) (by first | (rw [add_block]; exact hn177_1) | (show (Addr.add _ _).block ≠ _; rw [add_block]; exact hn177_1) | exact hn177_1) (.int .i64 ((rd_T66 y170 x89_5).f1))).trans hx177_1; replace hx177_0 := (cell_far (p := ⟨gb175, 2, none⟩) (by first | (rw [add_block]; exact hn177_2) | (show (Addr.add _ _).block ≠ _; rw [add_block]; exact hn177_2) | exact hn177_2) (.int .i64 ((rd_T66 y170 x89_5).f2))).trans hx177_0; replace hx177_1 := (cell_far (p := ⟨gb175, 2, none⟩) (by first | (rw [add_block]; exact hn177_2) | (show (Addr.add _ _).block ≠ _; rw [add_block]; exact hn177_2) | exact hn177_2) (.int .i64 ((rd_T66 y170 x89_5).f2))).trans hx177_1; (try have hy177_0 := fun (n_ : Nat) => (show (((((w66.drewN n_).setCell ⟨gb175, 0, none⟩ (.int .i64 ((rd_T66 y170 x89_5).f0))).setCell ⟨gb175, 1, none⟩ (.int .i64 ((rd_T66 y170 x89_5).f1))).setCell ⟨gb175, 2, none⟩ (.int .i64 ((rd_T66 y170 x89_5).f2)))).cell? _ = some _ from hx177_0)); (try have hy177_1 := fun (n_ : Nat) => (show (((((w66.drewN n_).setCell ⟨gb175, 0, none⟩ (.int .i64 ((rd_T66 y170 x89_5).f0))).setCell ⟨gb175, 1, none⟩ (.int .i64 ((rd_T66 y170 x89_5).f1))).setCell ⟨gb175, 2, none⟩ (.int .i64 ((rd_T66 y170 x89_5).f2)))).cell? _ = some _ from hx177_1)); clear hn177_0; clear hn177_1; clear hn177_2; replace p177 := eq_true p177; replace q177 := eq_true q177)))
                                                                  (try simp only [← hl8_5])
                                                                  go_roundg k5
                                                                  case measure => have := HJ3.out; have := HK2.out; have := HK3.out; have := HJ26.out; have := HK5.out; omega
                                                                  case rel => exact ⟨(wrap64 (x89_5 + 1)), (by first | rfl | (simp; done) | (simp [*]; done)), H', ⟨by have := HJ3.out; have := HK2.out; have := HK3.out; have := HJ26.out; have := HK5.out; omega⟩, ⟨by (try simp only [hl8_2]); (try simp only [hl8_3]); (try simp only [hl8_5]); (with_reducible repeat (first | apply Kd.R_alloc | apply Kd.R_drewN | apply Kd.R_drew)); exact Kd.R_mono (Kd.R_far (p := ⟨gb175, 2, none⟩) (Kd.R_far (p := ⟨gb175, 1, none⟩) (Kd.R_far (p := ⟨gb175, 0, none⟩) (Kd.R_types HO_8.out BK175.out (by decide)) (fun _ hk => hk.2) (.int .i64 ((rd_T66 y170 x89_5).f0))) (fun _ hk => hk.2) (.int .i64 ((rd_T66 y170 x89_5).f1))) (fun _ hk => hk.2) (.int .i64 ((rd_T66 y170 x89_5).f2))) (fun _ hk => trivial)⟩, ⟨by (try simp only [hl8_2]); (try simp only [hl8_3]); (try simp only [hl8_5]); (with_reducible repeat (first | refine blk_drewN ?_ _ | refine blk_drew ?_ | refine blk_alloc ?_ _)); refine blk_far ?_ NB164_175.out _; (with_reducible repeat (first | refine blk_drewN ?_ _ | refine blk_drew ?_ | refine blk_alloc ?_ _)); refine blk_far ?_ NB164_175.out _; (with_reducible repeat (first | refine blk_drewN ?_ _ | refine blk_drew ?_ | refine blk_alloc ?_ _)); refine blk_far ?_ NB164_175.out _; (with_reducible repeat (first | refine blk_drewN ?_ _ | refine blk_drew ?_ | refine blk_alloc ?_ _)); exact BK164.out⟩, ⟨by repeat (first | (with_reducible first | exact HB.out | apply below_alloc | apply pw_below_drewN | apply below_drew1 | refine below_set ?_ GE164.out | refine below_set ?_ GE175.out) | exact HB.out)⟩⟩
                                                              · rw [if_neg c60] at H
                                                                exact absurd H (by simp)
                                                            · rw [if_neg c59] at H
                                                              exact absurd H (by simp)
                                                          · rw [if_neg c58] at H
                                                            have c58b0 : decide (((rd_T66 y170 x89_5).f2) < (wrap64 (((rd_T66 l2 x45_3).f2) + ((rd_T53 l0 ((rd_T66 l2 x45_3).f0)).f0)))) = false := decide_eq_false c58
                                                            clear c58
                                                            have H' := Aside0.mk H
                                                            clear H
                                                            have p174 : 0 ≤ (x89_5 : Int) := of_decide_eq_true (by first | (with_reducible assumption) | assumption)
                                                            have q174 : x89_5 < (y170.length : Int) := of_decide_eq_true (by first | (with_reducible assumption) | assumption)
                                                            obtain ⟨ad174, e174, hx174_0, hx174_1, hx174_2⟩ := at_T66 HR173.out x89_5 p174 q174
                                                            obtain rfl : ad163 = ad174 := (by injection e174)
                                                            try replace hx174_0 := (HB.out.cell (World.block_lt_of_cell? w _ hx174_0)).trans hx174_0
                                                            try replace hx174_1 := (HB.out.cell (World.block_lt_of_cell? w _ hx174_1)).trans hx174_1
                                                            try replace hx174_2 := (HB.out.cell (World.block_lt_of_cell? w _ hx174_2)).trans hx174_2
                                                            replace p174 := eq_true p174
                                                            replace q174 := eq_true q174
                                                            go_wp2_with (first | ((with_reducible refine gate_dst (N := 13) rfl ?_); (try (refine gate_guard (by rfl) ?_; dsimp only)); refine box_event ?hg (N := 13) ?hd (cs := #[.int .i64 0, .int .i64 0, .int .i64 0]) (t := 66) ?hr ?_; (case hd => rfl); (case hg => rfl); (case hr => first | (go_simp; done) | (go_simp; rfl)); intro gb175 hg w70 hbox hb; have n0_ := Aside0.mk (Kd.R_below (by (with_reducible repeat (first | apply Kd.R_alloc | apply Kd.R_drewN | apply Kd.R_drew)); exact HO_8.out) hb); have n1_ := Aside0.mk (blk_below (g := gb164) (o := .cells #[.int .i64 ((rd_T66 l2 x45_3).f0), .int .i64 ((rd_T66 l2 x45_3).f1), .int .i64 ((rd_T66 l2 x45_3).f2)] 66 (0, 0)) (by (with_reducible repeat (first | refine blk_drewN ?_ _ | refine blk_drew ?_ | refine blk_alloc ?_ _)); exact BK164.out) hb); have n2_ := Aside0.mk (below_step (by repeat (first | (with_reducible first | exact HB.out | apply below_alloc | apply pw_below_drewN | apply below_drew1 | refine below_set ?_ GE164.out) | exact HB.out)) hb); have n3_ := Aside0.mk (hbox); have n4_ := Aside0.mk ((by rw [hg]; exact (below_size (by repeat (first | (with_reducible first | exact HB.out | apply below_alloc | apply pw_below_drewN | apply below_drew1 | refine below_set ?_ GE164.out) | exact HB.out))) : w.heap.size ≤ gb175)); have n5_ := Aside0.mk ((by rw [hg]; exact (below_size (by repeat (first | (with_reducible first | exact HB.out | apply below_alloc | apply pw_below_drewN | apply below_drew1 | refine below_set ?_ GE164.out) | exact HB.out))) : w.heap.size ≤ gb175)); have n6_ := Aside0.mk ((by rw [hg]; exact Nat.ne_of_lt (blk_lt (g := gb164) (o := .cells #[.int .i64 ((rd_T66 l2 x45_3).f0), .int .i64 ((rd_T66 l2 x45_3).f1), .int .i64 ((rd_T66 l2 x45_3).f2)] 66 (0, 0)) (by (with_reducible repeat (first | refine blk_drewN ?_ _ | refine blk_drew ?_ | refine blk_alloc ?_ _)); exact BK164.out)) : gb164 ≠ gb175)); have n7_ := Aside0.mk ((by rw [hg]; exact Nat.ne_of_gt (blk_lt (g := gb164) (o := .cells #[.int .i64 ((rd_T66 l2 x45_3).f0), .int .i64 ((rd_T66 l2 x45_3).f1), .int .i64 ((rd_T66 l2 x45_3).f2)] 66 (0, 0)) (by (with_reducible repeat (first | refine blk_drewN ?_ _ | refine blk_drew ?_ | refine blk_alloc ?_ _)); exact BK164.out)) : gb175 ≠ gb164)); clear HO_8; clear BK164; clear HB; have HO_8 := n0_; have BK164 := n1_; have HB := n2_; have BK175 := n3_; have GW175 := n4_; have GE175 := n5_; have NB164_175 := n6_; have NB175_164 := n7_; clear n0_ n1_ n2_ n3_ n4_ n5_ n6_ n7_; clear hb hbox hg; have hnb71 := NB175_164.out; have hnc71 := NB164_175.out; have hcz72_0 : w70.cell? ⟨gb175, 0, none⟩ = some (.int .i64 0) := (blk_cell BK175.out 0).trans rfl; have hcz72_1 : w70.cell? ⟨gb175, 1, none⟩ = some (.int .i64 0) := (blk_cell BK175.out 1).trans rfl; have hcz72_2 : w70.cell? ⟨gb175, 2, none⟩ = some (.int .i64 0) := (blk_cell BK175.out 2).trans rfl; have hfz72_0 := blk_frozen BK175.out 0; have hfz72_1 := blk_frozen BK175.out 1; have hfz72_2 := blk_frozen BK175.out 2; have hcz73_0 : w70.cell? ⟨gb164, 0, none⟩ = some (.int .i64 ((rd_T66 l2 x45_3).f0)) := (blk_cell BK164.out 0).trans rfl; have hcz73_1 : w70.cell? ⟨gb164, 1, none⟩ = some (.int .i64 ((rd_T66 l2 x45_3).f1)) := (blk_cell BK164.out 1).trans rfl; have hcz73_2 : w70.cell? ⟨gb164, 2, none⟩ = some (.int .i64 ((rd_T66 l2 x45_3).f2)) := (blk_cell BK164.out 2).trans rfl; have hfz73_0 := blk_frozen BK164.out 0; have hfz73_1 := blk_frozen BK164.out 1; have hfz73_2 := blk_frozen BK164.out 2; have p176 : 0 ≤ (((rd_T66 l2 x45_3).f0) : Int) := of_decide_eq_true (by first | (with_reducible assumption) | assumption); have q176 : ((rd_T66 l2 x45_3).f0) < (l0.length : Int) := of_decide_eq_true (by first | (with_reducible assumption) | assumption); obtain ⟨ad176, A176_1, c176_1, e176, hx176_0, hx176_1, hl176_1, hi176_1⟩ := at_T53 HR0.out ((rd_T66 l2 x45_3).f0) p176 q176; cases e176; have hn176_0 : ad176.block ≠ gb175 := Nat.ne_of_lt (Nat.lt_of_lt_of_le (by have := World.block_lt_of_cell? _ _ hx176_0; first | rwa [add_block] at this | exact this) GW175.out); have hn176_1 : ad176.block ≠ gb175 := Nat.ne_of_lt (Nat.lt_of_lt_of_le (by have := World.block_lt_of_cell? _ _ hx176_0; first | rwa [add_block] at this | exact this) GW175.out); have hn176_2 : ad176.block ≠ gb175 := Nat.ne_of_lt (Nat.lt_of_lt_of_le (by have := World.block_lt_of_cell? _ _ hx176_0; first | rwa [add_block] at this | exact this) GW175.out); replace hx176_0 := (HB.out.cell (World.block_lt_of_cell? w _ hx176_0)).trans hx176_0; replace hx176_1 := (HB.out.cell (World.block_lt_of_cell? w _ hx176_1)).trans hx176_1; have HR176_1 := Aside0.mk hi176_1; have HC176_1 := Aside0.mk hl176_1; clear hi176_1 hl176_1; replace hx176_0 := (cell_far (p := ⟨gb175, 0, none⟩) (by first | (rw [add_block]; exact hn176_0) | (show (Addr.add _ _).block ≠ _; rw [add_block]; exact hn176_0) | exact hn176_0) (.int .i64 ((rd_T66 y170 x89_5).f0))).trans hx176_0; replace hx176_1 := (cell_far (p := ⟨gb175, 0, none⟩) (by first | (rw [add_block]; exact hn176_0) | (show (Addr.add _ _).block ≠ _; rw [add_block]; exact hn176_0) | exact hn176_0) (.int .i64 ((rd_T66 y170 x89_5).f0))).trans hx176_1; replace hx176_0 := (cell_far (p := ⟨gb175, 1, none⟩) (by first | (rw [add_block]; exact hn176_1) | (show (Addr.add _ _).block ≠ _; rw [add_block]; exact hn176_1) | exact hn176_1) (.int .i64 ((rd_T66 y170 x89_5).f1))).trans hx176_0; replace hx176_1 := (cell_far (p := ⟨gb175, 1, none⟩) (by first | (rw [add_block]; exact hn176_1) | (show (Addr.add _ _).block ≠ _; rw [add_block]; exact hn176_1) | exact hn176_1) (.int .i64 ((rd_T66 y170 x89_5).f1))).trans hx176_1; replace hx176_0 := (cell_far (p := ⟨gb175, 2, none⟩) (by first | (rw [add_block]; exact hn176_2) | (show (Addr.add _ _).block ≠ _; rw [add_block]; exact hn176_2) | exact hn176_2) (.int .i64 ((rd_T66 y170 x89_5).f2))).trans hx176_0; replace hx176_1 := (cell_far (p := ⟨gb175, 2, none⟩) (by first | (rw [add_block]; exact hn176_2) | (show (Addr.add _ _).block ≠ _; rw [add_block]; exact hn176_2) | exact hn176_2) (.int .i64 ((rd_T66 y170 x89_5).f2))).trans hx176_1; (try have hy176_0 := fun (n_ : Nat) => (show (((((w70.drewN n_).setCell ⟨gb175, 0, none⟩ (.int .i64 ((rd_T66 y170 x89_5).f0))).setCell ⟨gb175, 1, none⟩ (.int .i64 ((rd_T66 y170 x89_5).f1))).setCell ⟨gb175, 2, none⟩ (.int .i64 ((rd_T66 y170 x89_5).f2)))).cell? _ = some _ from hx176_0)); (try have hy176_1 := fun (n_ : Nat) => (show (((((w70.drewN n_).setCell ⟨gb175, 0, none⟩ (.int .i64 ((rd_T66 y170 x89_5).f0))).setCell ⟨gb175, 1, none⟩ (.int .i64 ((rd_T66 y170 x89_5).f1))).setCell ⟨gb175, 2, none⟩ (.int .i64 ((rd_T66 y170 x89_5).f2)))).cell? _ = some _ from hx176_1)); clear hn176_0; clear hn176_1; clear hn176_2; replace p176 := eq_true p176; replace q176 := eq_true q176))
                                                            repeat (go_quiet (first | ((with_reducible refine gate_dst (N := 13) rfl ?_); (try (refine gate_guard (by rfl) ?_; dsimp only)); refine box_event ?hg (N := 13) ?hd (cs := #[.int .i64 0, .int .i64 0, .int .i64 0]) (t := 66) ?hr ?_; (case hd => rfl); (case hg => rfl); (case hr => first | (go_simp; done) | (go_simp; rfl)); intro gb175 hg w70 hbox hb; have n0_ := Aside0.mk (Kd.R_below (by (with_reducible repeat (first | apply Kd.R_alloc | apply Kd.R_drewN | apply Kd.R_drew)); exact HO_8.out) hb); have n1_ := Aside0.mk (blk_below (g := gb164) (o := .cells #[.int .i64 ((rd_T66 l2 x45_3).f0), .int .i64 ((rd_T66 l2 x45_3).f1), .int .i64 ((rd_T66 l2 x45_3).f2)] 66 (0, 0)) (by (with_reducible repeat (first | refine blk_drewN ?_ _ | refine blk_drew ?_ | refine blk_alloc ?_ _)); exact BK164.out) hb); have n2_ := Aside0.mk (below_step (by repeat (first | (with_reducible first | exact HB.out | apply below_alloc | apply pw_below_drewN | apply below_drew1 | refine below_set ?_ GE164.out) | exact HB.out)) hb); have n3_ := Aside0.mk (hbox); have n4_ := Aside0.mk ((by rw [hg]; exact (below_size (by repeat (first | (with_reducible first | exact HB.out | apply below_alloc | apply pw_below_drewN | apply below_drew1 | refine below_set ?_ GE164.out) | exact HB.out))) : w.heap.size ≤ gb175)); have n5_ := Aside0.mk ((by rw [hg]; exact (below_size (by repeat (first | (with_reducible first | exact HB.out | apply below_alloc | apply pw_below_drewN | apply below_drew1 | refine below_set ?_ GE164.out) | exact HB.out))) : w.heap.size ≤ gb175)); have n6_ := Aside0.mk ((by rw [hg]; exact Nat.ne_of_lt (blk_lt (g := gb164) (o := .cells #[.int .i64 ((rd_T66 l2 x45_3).f0), .int .i64 ((rd_T66 l2 x45_3).f1), .int .i64 ((rd_T66 l2 x45_3).f2)] 66 (0, 0)) (by (with_reducible repeat (first | refine blk_drewN ?_ _ | refine blk_drew ?_ | refine blk_alloc ?_ _)); exact BK164.out)) : gb164 ≠ gb175)); have n7_ := Aside0.mk ((by rw [hg]; exact Nat.ne_of_gt (blk_lt (g := gb164) (o := .cells #[.int .i64 ((rd_T66 l2 x45_3).f0), .int .i64 ((rd_T66 l2 x45_3).f1), .int .i64 ((rd_T66 l2 x45_3).f2)] 66 (0, 0)) (by (with_reducible repeat (first | refine blk_drewN ?_ _ | refine blk_drew ?_ | refine blk_alloc ?_ _)); exact BK164.out)) : gb175 ≠ gb164)); clear HO_8; clear BK164; clear HB; have HO_8 := n0_; have BK164 := n1_; have HB := n2_; have BK175 := n3_; have GW175 := n4_; have GE175 := n5_; have NB164_175 := n6_; have NB175_164 := n7_; clear n0_ n1_ n2_ n3_ n4_ n5_ n6_ n7_; clear hb hbox hg; have hnb71 := NB175_164.out; have hnc71 := NB164_175.out; have hcz72_0 : w70.cell? ⟨gb175, 0, none⟩ = some (.int .i64 0) := (blk_cell BK175.out 0).trans rfl; have hcz72_1 : w70.cell? ⟨gb175, 1, none⟩ = some (.int .i64 0) := (blk_cell BK175.out 1).trans rfl; have hcz72_2 : w70.cell? ⟨gb175, 2, none⟩ = some (.int .i64 0) := (blk_cell BK175.out 2).trans rfl; have hfz72_0 := blk_frozen BK175.out 0; have hfz72_1 := blk_frozen BK175.out 1; have hfz72_2 := blk_frozen BK175.out 2; have hcz73_0 : w70.cell? ⟨gb164, 0, none⟩ = some (.int .i64 ((rd_T66 l2 x45_3).f0)) := (blk_cell BK164.out 0).trans rfl; have hcz73_1 : w70.cell? ⟨gb164, 1, none⟩ = some (.int .i64 ((rd_T66 l2 x45_3).f1)) := (blk_cell BK164.out 1).trans rfl; have hcz73_2 : w70.cell? ⟨gb164, 2, none⟩ = some (.int .i64 ((rd_T66 l2 x45_3).f2)) := (blk_cell BK164.out 2).trans rfl; have hfz73_0 := blk_frozen BK164.out 0; have hfz73_1 := blk_frozen BK164.out 1; have hfz73_2 := blk_frozen BK164.out 2; have p176 : 0 ≤ (((rd_T66 l2 x45_3).f0) : Int) := of_decide_eq_true (by first | (with_reducible assumption) | assumption); have q176 : ((rd_T66 l2 x45_3).f0) < (l0.length : Int) := of_decide_eq_true (by first | (with_reducible assumption) | assumption); obtain ⟨ad176, A176_1, c176_1, e176, hx176_0, hx176_1, hl176_1, hi176_1⟩ := at_T53 HR0.out ((rd_T66 l2 x45_3).f0) p176 q176; cases e176; have hn176_0 : ad176.block ≠ gb175 := Nat.ne_of_lt (Nat.lt_of_lt_of_le (by have := World.block_lt_of_cell? _ _ hx176_0; first | rwa [add_block] at this | exact this) GW175.out); have hn176_1 : ad176.block ≠ gb175 := Nat.ne_of_lt (Nat.lt_of_lt_of_le (by have := World.block_lt_of_cell? _ _ hx176_0; first | rwa [add_block] at this | exact this) GW175.out); have hn176_2 : ad176.block ≠ gb175 := Nat.ne_of_lt (Nat.lt_of_lt_of_le (by have := World.block_lt_of_cell? _ _ hx176_0; first | rwa [add_block] at this | exact this) GW175.out); replace hx176_0 := (HB.out.cell (World.block_lt_of_cell? w _ hx176_0)).trans hx176_0; replace hx176_1 := (HB.out.cell (World.block_lt_of_cell? w _ hx176_1)).trans hx176_1; have HR176_1 := Aside0.mk hi176_1; have HC176_1 := Aside0.mk hl176_1; clear hi176_1 hl176_1; replace hx176_0 := (cell_far (p := ⟨gb175, 0, none⟩) (by first | (rw [add_block]; exact hn176_0) | (show (Addr.add _ _).block ≠ _; rw [add_block]; exact hn176_0) | exact hn176_0) (.int .i64 ((rd_T66 y170 x89_5).f0))).trans hx176_0; replace hx176_1 := (cell_far (p := ⟨gb175, 0, none⟩) (by first | (rw [add_block]; exact hn176_0) | (show (Addr.add _ _).block ≠ _; rw [add_block]; exact hn176_0) | exact hn176_0) (.int .i64 ((rd_T66 y170 x89_5).f0))).trans hx176_1; replace hx176_0 := (cell_far (p := ⟨gb175, 1, none⟩) (by first | (rw [add_block]; exact hn176_1) | (show (Addr.add _ _).block ≠ _; rw [add_block]; exact hn176_1) | exact hn176_1) (.int .i64 ((rd_T66 y170 x89_5).f1))).trans hx176_0; replace hx176_1 := (cell_far (p := ⟨gb175, 1, none⟩) (by first | (rw [add_block]; exact hn176_1) | (show (Addr.add _ _).block ≠ _; rw [add_block]; exact hn176_1) | exact hn176_1) (.int .i64 ((rd_T66 y170 x89_5).f1))).trans hx176_1; replace hx176_0 := (cell_far (p := ⟨gb175, 2, none⟩) (by first | (rw [add_block]; exact hn176_2) | (show (Addr.add _ _).block ≠ _; rw [add_block]; exact hn176_2) | exact hn176_2) (.int .i64 ((rd_T66 y170 x89_5).f2))).trans hx176_0; replace hx176_1 := (cell_far (p := ⟨gb175, 2, none⟩) (by first | (rw [add_block]; exact hn176_2) | (show (Addr.add _ _).block ≠ _; rw [add_block]; exact hn176_2) | exact hn176_2) (.int .i64 ((rd_T66 y170 x89_5).f2))).trans hx176_1; (try have hy176_0 := fun (n_ : Nat) => (show (((((w70.drewN n_).setCell ⟨gb175, 0, none⟩ (.int .i64 ((rd_T66 y170 x89_5).f0))).setCell ⟨gb175, 1, none⟩ (.int .i64 ((rd_T66 y170 x89_5).f1))).setCell ⟨gb175, 2, none⟩ (.int .i64 ((rd_T66 y170 x89_5).f2)))).cell? _ = some _ from hx176_0)); (try have hy176_1 := fun (n_ : Nat) => (show (((((w70.drewN n_).setCell ⟨gb175, 0, none⟩ (.int .i64 ((rd_T66 y170 x89_5).f0))).setCell ⟨gb175, 1, none⟩ (.int .i64 ((rd_T66 y170 x89_5).f1))).setCell ⟨gb175, 2, none⟩ (.int .i64 ((rd_T66 y170 x89_5).f2)))).cell? _ = some _ from hx176_1)); clear hn176_0; clear hn176_1; clear hn176_2; replace p176 := eq_true p176; replace q176 := eq_true q176)); try go_wp2_with (first | ((with_reducible refine gate_dst (N := 13) rfl ?_); (try (refine gate_guard (by rfl) ?_; dsimp only)); refine box_event ?hg (N := 13) ?hd (cs := #[.int .i64 0, .int .i64 0, .int .i64 0]) (t := 66) ?hr ?_; (case hd => rfl); (case hg => rfl); (case hr => first | (go_simp; done) | (go_simp; rfl)); intro gb175 hg w70 hbox hb; have n0_ := Aside0.mk (Kd.R_below (by (with_reducible repeat (first | apply Kd.R_alloc | apply Kd.R_drewN | apply Kd.R_drew)); exact HO_8.out) hb); have n1_ := Aside0.mk (blk_below (g := gb164) (o := .cells #[.int .i64 ((rd_T66 l2 x45_3).f0), .int .i64 ((rd_T66 l2 x45_3).f1), .int .i64 ((rd_T66 l2 x45_3).f2)] 66 (0, 0)) (by (with_reducible repeat (first | refine blk_drewN ?_ _ | refine blk_drew ?_ | refine blk_alloc ?_ _)); exact BK164.out) hb); have n2_ := Aside0.mk (below_step (by repeat (first | (with_reducible first | exact HB.out | apply below_alloc | apply pw_below_drewN | apply below_drew1 | refine below_set ?_ GE164.out) | exact HB.out)) hb); have n3_ := Aside0.mk (hbox); have n4_ := Aside0.mk ((by rw [hg]; exact (below_size (by repeat (first | (with_reducible first | exact HB.out | apply below_alloc | apply pw_below_drewN | apply below_drew1 | refine below_set ?_ GE164.out) | exact HB.out))) : w.heap.size ≤ gb175)); have n5_ := Aside0.mk ((by rw [hg]; exact (below_size (by repeat (first | (with_reducible first | exact HB.out | apply below_alloc | apply pw_below_drewN | apply below_drew1 | refine below_set ?_ GE164.out) | exact HB.out))) : w.heap.size ≤ gb175)); have n6_ := Aside0.mk ((by rw [hg]; exact Nat.ne_of_lt (blk_lt (g := gb164) (o := .cells #[.int .i64 ((rd_T66 l2 x45_3).f0), .int .i64 ((rd_T66 l2 x45_3).f1), .int .i64 ((rd_T66 l2 x45_3).f2)] 66 (0, 0)) (by (with_reducible repeat (first | refine blk_drewN ?_ _ | refine blk_drew ?_ | refine blk_alloc ?_ _)); exact BK164.out)) : gb164 ≠ gb175)); have n7_ := Aside0.mk ((by rw [hg]; exact Nat.ne_of_gt (blk_lt (g := gb164) (o := .cells #[.int .i64 ((rd_T66 l2 x45_3).f0), .int .i64 ((rd_T66 l2 x45_3).f1), .int .i64 ((rd_T66 l2 x45_3).f2)] 66 (0, 0)) (by (with_reducible repeat (first | refine blk_drewN ?_ _ | refine blk_drew ?_ | refine blk_alloc ?_ _)); exact BK164.out)) : gb175 ≠ gb164)); clear HO_8; clear BK164; clear HB; have HO_8 := n0_; have BK164 := n1_; have HB := n2_; have BK175 := n3_; have GW175 := n4_; have GE175 := n5_; have NB164_175 := n6_; have NB175_164 := n7_; clear n0_ n1_ n2_ n3_ n4_ n5_ n6_ n7_; clear hb hbox hg; have hnb71 := NB175_164.out; have hnc71 := NB164_175.out; have hcz72_0 : w70.cell? ⟨gb175, 0, none⟩ = some (.int .i64 0) := (blk_cell BK175.out 0).trans rfl; have hcz72_1 : w70.cell? ⟨gb175, 1, none⟩ = some (.int .i64 0) := (blk_cell BK175.out 1).trans rfl; have hcz72_2 : w70.cell? ⟨gb175, 2, none⟩ = some (.int .i64 0) := (blk_cell BK175.out 2).trans rfl; have hfz72_0 := blk_frozen BK175.out 0; have hfz72_1 := blk_frozen BK175.out 1; have hfz72_2 := blk_frozen BK175.out 2; have hcz73_0 : w70.cell? ⟨gb164, 0, none⟩ = some (.int .i64 ((rd_T66 l2 x45_3).f0)) := (blk_cell BK164.out 0).trans rfl; have hcz73_1 : w70.cell? ⟨gb164, 1, none⟩ = some (.int .i64 ((rd_T66 l2 x45_3).f1)) := (blk_cell BK164.out 1).trans rfl; have hcz73_2 : w70.cell? ⟨gb164, 2, none⟩ = some (.int .i64 ((rd_T66 l2 x45_3).f2)) := (blk_cell BK164.out 2).trans rfl; have hfz73_0 := blk_frozen BK164.out 0; have hfz73_1 := blk_frozen BK164.out 1; have hfz73_2 := blk_frozen BK164.out 2; have p176 : 0 ≤ (((rd_T66 l2 x45_3).f0) : Int) := of_decide_eq_true (by first | (with_reducible assumption) | assumption); have q176 : ((rd_T66 l2 x45_3).f0) < (l0.length : Int) := of_decide_eq_true (by first | (with_reducible assumption) | assumption); obtain ⟨ad176, A176_1, c176_1, e176, hx176_0, hx176_1, hl176_1, hi176_1⟩ := at_T53 HR0.out ((rd_T66 l2 x45_3).f0) p176 q176; cases e176; have hn176_0 : ad176.block ≠ gb175 := Nat.ne_of_lt (Nat.lt_of_lt_of_le (by have := World.block_lt_of_cell? _ _ hx176_0; first | rwa [add_block] at this | exact this) GW175.out); have hn176_1 : ad176.block ≠ gb175 := Nat.ne_of_lt (Nat.lt_of_lt_of_le (by have := World.block_lt_of_cell? _ _ hx176_0; first | rwa [add_block] at this | exact this) GW175.out); have hn176_2 : ad176.block ≠ gb175 := Nat.ne_of_lt (Nat.lt_of_lt_of_le (by have := World.block_lt_of_cell? _ _ hx176_0; first | rwa [add_block] at this | exact this) GW175.out); replace hx176_0 := (HB.out.cell (World.block_lt_of_cell? w _ hx176_0)).trans hx176_0; replace hx176_1 := (HB.out.cell (World.block_lt_of_cell? w _ hx176_1)).trans hx176_1; have HR176_1 := Aside0.mk hi176_1; have HC176_1 := Aside0.mk hl176_1; clear hi176_1 hl176_1; replace hx176_0 := (cell_far (p := ⟨gb175, 0, none⟩) (by first | (rw [add_block]; exact hn176_0) | (show (Addr.add _ _).block ≠ _; rw [add_block]; exact hn176_0) | exact hn176_0) (.int .i64 ((rd_T66 y170 x89_5).f0))).trans hx176_0; replace hx176_1 := (cell_far (p := ⟨gb175, 0, none⟩) (by first | (rw [add_block]; exact hn176_0) | (show (Addr.add _ _).block ≠ _; rw [add_block]; exact hn176_0) | exact hn176_0) (.int .i64 ((rd_T66 y170 x89_5).f0))).trans hx176_1; replace hx176_0 := (cell_far (p := ⟨gb175, 1, none⟩) (by first | (rw [add_block]; exact hn176_1) | (show (Addr.add _ _).block ≠ _; rw [add_block]; exact hn176_1) | exact hn176_1) (.int .i64 ((rd_T66 y170 x89_5).f1))).trans hx176_0; replace hx176_1 := (cell_far (p := ⟨gb175, 1, none⟩) (by first | (rw [add_block]; exact hn176_1) | (show (Addr.add _ _).block ≠ _; rw [add_block]; exact hn176_1) | exact hn176_1) (.int .i64 ((rd_T66 y170 x89_5).f1))).trans hx176_1; replace hx176_0 := (cell_far (p := ⟨gb175, 2, none⟩) (by first | (rw [add_block]; exact hn176_2) | (show (Addr.add _ _).block ≠ _; rw [add_block]; exact hn176_2) | exact hn176_2) (.int .i64 ((rd_T66 y170 x89_5).f2))).trans hx176_0; replace hx176_1 := (cell_far (p := ⟨gb175, 2, none⟩) (by first | (rw [add_block]; exact hn176_2) | (show (Addr.add _ _).block ≠ _; rw [add_block]; exact hn176_2) | exact hn176_2) (.int .i64 ((rd_T66 y170 x89_5).f2))).trans hx176_1; (try have hy176_0 := fun (n_ : Nat) => (show (((((w70.drewN n_).setCell ⟨gb175, 0, none⟩ (.int .i64 ((rd_T66 y170 x89_5).f0))).setCell ⟨gb175, 1, none⟩ (.int .i64 ((rd_T66 y170 x89_5).f1))).setCell ⟨gb175, 2, none⟩ (.int .i64 ((rd_T66 y170 x89_5).f2)))).cell? _ = some _ from hx176_0)); (try have hy176_1 := fun (n_ : Nat) => (show (((((w70.drewN n_).setCell ⟨gb175, 0, none⟩ (.int .i64 ((rd_T66 y170 x89_5).f0))).setCell ⟨gb175, 1, none⟩ (.int .i64 ((rd_T66 y170 x89_5).f1))).setCell ⟨gb175, 2, none⟩ (.int .i64 ((rd_T66 y170 x89_5).f2)))).cell? _ = some _ from hx176_1)); clear hn176_0; clear hn176_1; clear hn176_2; replace p176 := eq_true p176; replace q176 := eq_true q176)))
                                                            (try simp only [← hl8_5])
                                                            go_roundg k5
                                                            case measure => have := HJ3.out; have := HK2.out; have := HK3.out; have := HJ26.out; have := HK5.out; omega
                                                            case rel => exact ⟨(wrap64 (x89_5 + 1)), (by first | rfl | (simp; done) | (simp [*]; done)), H', ⟨by have := HJ3.out; have := HK2.out; have := HK3.out; have := HJ26.out; have := HK5.out; omega⟩, ⟨by (try simp only [hl8_2]); (try simp only [hl8_3]); (try simp only [hl8_5]); (with_reducible repeat (first | apply Kd.R_alloc | apply Kd.R_drewN | apply Kd.R_drew)); exact Kd.R_mono (Kd.R_far (p := ⟨gb175, 2, none⟩) (Kd.R_far (p := ⟨gb175, 1, none⟩) (Kd.R_far (p := ⟨gb175, 0, none⟩) (Kd.R_types HO_8.out BK175.out (by decide)) (fun _ hk => hk.2) (.int .i64 ((rd_T66 y170 x89_5).f0))) (fun _ hk => hk.2) (.int .i64 ((rd_T66 y170 x89_5).f1))) (fun _ hk => hk.2) (.int .i64 ((rd_T66 y170 x89_5).f2))) (fun _ hk => trivial)⟩, ⟨by (try simp only [hl8_2]); (try simp only [hl8_3]); (try simp only [hl8_5]); (with_reducible repeat (first | refine blk_drewN ?_ _ | refine blk_drew ?_ | refine blk_alloc ?_ _)); refine blk_far ?_ NB164_175.out _; (with_reducible repeat (first | refine blk_drewN ?_ _ | refine blk_drew ?_ | refine blk_alloc ?_ _)); refine blk_far ?_ NB164_175.out _; (with_reducible repeat (first | refine blk_drewN ?_ _ | refine blk_drew ?_ | refine blk_alloc ?_ _)); refine blk_far ?_ NB164_175.out _; (with_reducible repeat (first | refine blk_drewN ?_ _ | refine blk_drew ?_ | refine blk_alloc ?_ _)); exact BK164.out⟩, ⟨by repeat (first | (with_reducible first | exact HB.out | apply below_alloc | apply pw_below_drewN | apply below_drew1 | refine below_set ?_ GE164.out | refine below_set ?_ GE175.out) | exact HB.out)⟩⟩
                                                        · rw [if_neg c57] at H
                                                          exact absurd H (by simp)
                                                      · rw [if_neg c56] at H
                                                        exact absurd H (by simp)
                                                    · rw [if_neg c55] at H
                                                      have c55b0 : (((rd_T66 y170 x89_5).f1) == ((rd_T66 l2 x45_3).f1)) = false := beq_eq_false_iff_ne.mpr c55
                                                      have c55b1 : (((rd_T66 y170 x89_5).f1) != ((rd_T66 l2 x45_3).f1)) = true := bne_iff_ne.mpr c55
                                                      have H' := Aside0.mk H
                                                      clear H
                                                      have p174 : 0 ≤ (x89_5 : Int) := of_decide_eq_true (by first | (with_reducible assumption) | assumption)
                                                      have q174 : x89_5 < (y170.length : Int) := of_decide_eq_true (by first | (with_reducible assumption) | assumption)
                                                      obtain ⟨ad174, e174, hx174_0, hx174_1, hx174_2⟩ := at_T66 HR173.out x89_5 p174 q174
                                                      obtain rfl : ad163 = ad174 := (by injection e174)
                                                      try replace hx174_0 := (HB.out.cell (World.block_lt_of_cell? w _ hx174_0)).trans hx174_0
                                                      try replace hx174_1 := (HB.out.cell (World.block_lt_of_cell? w _ hx174_1)).trans hx174_1
                                                      try replace hx174_2 := (HB.out.cell (World.block_lt_of_cell? w _ hx174_2)).trans hx174_2
                                                      replace p174 := eq_true p174
                                                      replace q174 := eq_true q174
                                                      go_wp2_with (first | ((with_reducible refine gate_dst (N := 13) rfl ?_); (try (refine gate_guard (by rfl) ?_; dsimp only)); refine box_event ?hg (N := 13) ?hd (cs := #[.int .i64 0, .int .i64 0, .int .i64 0]) (t := 66) ?hr ?_; (case hd => rfl); (case hg => rfl); (case hr => first | (go_simp; done) | (go_simp; rfl)); intro gb175 hg w74 hbox hb; have n0_ := Aside0.mk (Kd.R_below (by (with_reducible repeat (first | apply Kd.R_alloc | apply Kd.R_drewN | apply Kd.R_drew)); exact HO_8.out) hb); have n1_ := Aside0.mk (blk_below (g := gb164) (o := .cells #[.int .i64 ((rd_T66 l2 x45_3).f0), .int .i64 ((rd_T66 l2 x45_3).f1), .int .i64 ((rd_T66 l2 x45_3).f2)] 66 (0, 0)) (by (with_reducible repeat (first | refine blk_drewN ?_ _ | refine blk_drew ?_ | refine blk_alloc ?_ _)); exact BK164.out) hb); have n2_ := Aside0.mk (below_step (by repeat (first | (with_reducible first | exact HB.out | apply below_alloc | apply pw_below_drewN | apply below_drew1 | refine below_set ?_ GE164.out) | exact HB.out)) hb); have n3_ := Aside0.mk (hbox); have n4_ := Aside0.mk ((by rw [hg]; exact (below_size (by repeat (first | (with_reducible first | exact HB.out | apply below_alloc | apply pw_below_drewN | apply below_drew1 | refine below_set ?_ GE164.out) | exact HB.out))) : w.heap.size ≤ gb175)); have n5_ := Aside0.mk ((by rw [hg]; exact (below_size (by repeat (first | (with_reducible first | exact HB.out | apply below_alloc | apply pw_below_drewN | apply below_drew1 | refine below_set ?_ GE164.out) | exact HB.out))) : w.heap.size ≤ gb175)); have n6_ := Aside0.mk ((by rw [hg]; exact Nat.ne_of_lt (blk_lt (g := gb164) (o := .cells #[.int .i64 ((rd_T66 l2 x45_3).f0), .int .i64 ((rd_T66 l2 x45_3).f1), .int .i64 ((rd_T66 l2 x45_3).f2)] 66 (0, 0)) (by (with_reducible repeat (first | refine blk_drewN ?_ _ | refine blk_drew ?_ | refine blk_alloc ?_ _)); exact BK164.out)) : gb164 ≠ gb175)); have n7_ := Aside0.mk ((by rw [hg]; exact Nat.ne_of_gt (blk_lt (g := gb164) (o := .cells #[.int .i64 ((rd_T66 l2 x45_3).f0), .int .i64 ((rd_T66 l2 x45_3).f1), .int .i64 ((rd_T66 l2 x45_3).f2)] 66 (0, 0)) (by (with_reducible repeat (first | refine blk_drewN ?_ _ | refine blk_drew ?_ | refine blk_alloc ?_ _)); exact BK164.out)) : gb175 ≠ gb164)); clear HO_8; clear BK164; clear HB; have HO_8 := n0_; have BK164 := n1_; have HB := n2_; have BK175 := n3_; have GW175 := n4_; have GE175 := n5_; have NB164_175 := n6_; have NB175_164 := n7_; clear n0_ n1_ n2_ n3_ n4_ n5_ n6_ n7_; clear hb hbox hg; have hnb75 := NB175_164.out; have hnc75 := NB164_175.out; have hcz76_0 : w74.cell? ⟨gb175, 0, none⟩ = some (.int .i64 0) := (blk_cell BK175.out 0).trans rfl; have hcz76_1 : w74.cell? ⟨gb175, 1, none⟩ = some (.int .i64 0) := (blk_cell BK175.out 1).trans rfl; have hcz76_2 : w74.cell? ⟨gb175, 2, none⟩ = some (.int .i64 0) := (blk_cell BK175.out 2).trans rfl; have hfz76_0 := blk_frozen BK175.out 0; have hfz76_1 := blk_frozen BK175.out 1; have hfz76_2 := blk_frozen BK175.out 2; have hcz77_0 : w74.cell? ⟨gb164, 0, none⟩ = some (.int .i64 ((rd_T66 l2 x45_3).f0)) := (blk_cell BK164.out 0).trans rfl; have hcz77_1 : w74.cell? ⟨gb164, 1, none⟩ = some (.int .i64 ((rd_T66 l2 x45_3).f1)) := (blk_cell BK164.out 1).trans rfl; have hcz77_2 : w74.cell? ⟨gb164, 2, none⟩ = some (.int .i64 ((rd_T66 l2 x45_3).f2)) := (blk_cell BK164.out 2).trans rfl; have hfz77_0 := blk_frozen BK164.out 0; have hfz77_1 := blk_frozen BK164.out 1; have hfz77_2 := blk_frozen BK164.out 2))
                                                      repeat (go_quiet (first | ((with_reducible refine gate_dst (N := 13) rfl ?_); (try (refine gate_guard (by rfl) ?_; dsimp only)); refine box_event ?hg (N := 13) ?hd (cs := #[.int .i64 0, .int .i64 0, .int .i64 0]) (t := 66) ?hr ?_; (case hd => rfl); (case hg => rfl); (case hr => first | (go_simp; done) | (go_simp; rfl)); intro gb175 hg w74 hbox hb; have n0_ := Aside0.mk (Kd.R_below (by (with_reducible repeat (first | apply Kd.R_alloc | apply Kd.R_drewN | apply Kd.R_drew)); exact HO_8.out) hb); have n1_ := Aside0.mk (blk_below (g := gb164) (o := .cells #[.int .i64 ((rd_T66 l2 x45_3).f0), .int .i64 ((rd_T66 l2 x45_3).f1), .int .i64 ((rd_T66 l2 x45_3).f2)] 66 (0, 0)) (by (with_reducible repeat (first | refine blk_drewN ?_ _ | refine blk_drew ?_ | refine blk_alloc ?_ _)); exact BK164.out) hb); have n2_ := Aside0.mk (below_step (by repeat (first | (with_reducible first | exact HB.out | apply below_alloc | apply pw_below_drewN | apply below_drew1 | refine below_set ?_ GE164.out) | exact HB.out)) hb); have n3_ := Aside0.mk (hbox); have n4_ := Aside0.mk ((by rw [hg]; exact (below_size (by repeat (first | (with_reducible first | exact HB.out | apply below_alloc | apply pw_below_drewN | apply below_drew1 | refine below_set ?_ GE164.out) | exact HB.out))) : w.heap.size ≤ gb175)); have n5_ := Aside0.mk ((by rw [hg]; exact (below_size (by repeat (first | (with_reducible first | exact HB.out | apply below_alloc | apply pw_below_drewN | apply below_drew1 | refine below_set ?_ GE164.out) | exact HB.out))) : w.heap.size ≤ gb175)); have n6_ := Aside0.mk ((by rw [hg]; exact Nat.ne_of_lt (blk_lt (g := gb164) (o := .cells #[.int .i64 ((rd_T66 l2 x45_3).f0), .int .i64 ((rd_T66 l2 x45_3).f1), .int .i64 ((rd_T66 l2 x45_3).f2)] 66 (0, 0)) (by (with_reducible repeat (first | refine blk_drewN ?_ _ | refine blk_drew ?_ | refine blk_alloc ?_ _)); exact BK164.out)) : gb164 ≠ gb175)); have n7_ := Aside0.mk ((by rw [hg]; exact Nat.ne_of_gt (blk_lt (g := gb164) (o := .cells #[.int .i64 ((rd_T66 l2 x45_3).f0), .int .i64 ((rd_T66 l2 x45_3).f1), .int .i64 ((rd_T66 l2 x45_3).f2)] 66 (0, 0)) (by (with_reducible repeat (first | refine blk_drewN ?_ _ | refine blk_drew ?_ | refine blk_alloc ?_ _)); exact BK164.out)) : gb175 ≠ gb164)); clear HO_8; clear BK164; clear HB; have HO_8 := n0_; have BK164 := n1_; have HB := n2_; have BK175 := n3_; have GW175 := n4_; have GE175 := n5_; have NB164_175 := n6_; have NB175_164 := n7_; clear n0_ n1_ n2_ n3_ n4_ n5_ n6_ n7_; clear hb hbox hg; have hnb75 := NB175_164.out; have hnc75 := NB164_175.out; have hcz76_0 : w74.cell? ⟨gb175, 0, none⟩ = some (.int .i64 0) := (blk_cell BK175.out 0).trans rfl; have hcz76_1 : w74.cell? ⟨gb175, 1, none⟩ = some (.int .i64 0) := (blk_cell BK175.out 1).trans rfl; have hcz76_2 : w74.cell? ⟨gb175, 2, none⟩ = some (.int .i64 0) := (blk_cell BK175.out 2).trans rfl; have hfz76_0 := blk_frozen BK175.out 0; have hfz76_1 := blk_frozen BK175.out 1; have hfz76_2 := blk_frozen BK175.out 2; have hcz77_0 : w74.cell? ⟨gb164, 0, none⟩ = some (.int .i64 ((rd_T66 l2 x45_3).f0)) := (blk_cell BK164.out 0).trans rfl; have hcz77_1 : w74.cell? ⟨gb164, 1, none⟩ = some (.int .i64 ((rd_T66 l2 x45_3).f1)) := (blk_cell BK164.out 1).trans rfl; have hcz77_2 : w74.cell? ⟨gb164, 2, none⟩ = some (.int .i64 ((rd_T66 l2 x45_3).f2)) := (blk_cell BK164.out 2).trans rfl; have hfz77_0 := blk_frozen BK164.out 0; have hfz77_1 := blk_frozen BK164.out 1; have hfz77_2 := blk_frozen BK164.out 2)); try go_wp2_with (first | ((with_reducible refine gate_dst (N := 13) rfl ?_); (try (refine gate_guard (by rfl) ?_; dsimp only)); refine box_event ?hg (N := 13) ?hd (cs := #[.int .i64 0, .int .i64 0, .int .i64 0]) (t := 66) ?hr ?_; (case hd => rfl); (case hg => rfl); (case hr => first | (go_simp; done) | (go_simp; rfl)); intro gb175 hg w74 hbox hb; have n0_ := Aside0.mk (Kd.R_below (by (with_reducible repeat (first | apply Kd.R_alloc | apply Kd.R_drewN | apply Kd.R_drew)); exact HO_8.out) hb); have n1_ := Aside0.mk (blk_below (g := gb164) (o := .cells #[.int .i64 ((rd_T66 l2 x45_3).f0), .int .i64 ((rd_T66 l2 x45_3).f1), .int .i64 ((rd_T66 l2 x45_3).f2)] 66 (0, 0)) (by (with_reducible repeat (first | refine blk_drewN ?_ _ | refine blk_drew ?_ | refine blk_alloc ?_ _)); exact BK164.out) hb); have n2_ := Aside0.mk (below_step (by repeat (first | (with_reducible first | exact HB.out | apply below_alloc | apply pw_below_drewN | apply below_drew1 | refine below_set ?_ GE164.out) | exact HB.out)) hb); have n3_ := Aside0.mk (hbox); have n4_ := Aside0.mk ((by rw [hg]; exact (below_size (by repeat (first | (with_reducible first | exact HB.out | apply below_alloc | apply pw_below_drewN | apply below_drew1 | refine below_set ?_ GE164.out) | exact HB.out))) : w.heap.size ≤ gb175)); have n5_ := Aside0.mk ((by rw [hg]; exact (below_size (by repeat (first | (with_reducible first | exact HB.out | apply below_alloc | apply pw_below_drewN | apply below_drew1 | refine below_set ?_ GE164.out) | exact HB.out))) : w.heap.size ≤ gb175)); have n6_ := Aside0.mk ((by rw [hg]; exact Nat.ne_of_lt (blk_lt (g := gb164) (o := .cells #[.int .i64 ((rd_T66 l2 x45_3).f0), .int .i64 ((rd_T66 l2 x45_3).f1), .int .i64 ((rd_T66 l2 x45_3).f2)] 66 (0, 0)) (by (with_reducible repeat (first | refine blk_drewN ?_ _ | refine blk_drew ?_ | refine blk_alloc ?_ _)); exact BK164.out)) : gb164 ≠ gb175)); have n7_ := Aside0.mk ((by rw [hg]; exact Nat.ne_of_gt (blk_lt (g := gb164) (o := .cells #[.int .i64 ((rd_T66 l2 x45_3).f0), .int .i64 ((rd_T66 l2 x45_3).f1), .int .i64 ((rd_T66 l2 x45_3).f2)] 66 (0, 0)) (by (with_reducible repeat (first | refine blk_drewN ?_ _ | refine blk_drew ?_ | refine blk_alloc ?_ _)); exact BK164.out)) : gb175 ≠ gb164)); clear HO_8; clear BK164; clear HB; have HO_8 := n0_; have BK164 := n1_; have HB := n2_; have BK175 := n3_; have GW175 := n4_; have GE175 := n5_; have NB164_175 := n6_; have NB175_164 := n7_; clear n0_ n1_ n2_ n3_ n4_ n5_ n6_ n7_; clear hb hbox hg; have hnb75 := NB175_164.out; have hnc75 := NB164_175.out; have hcz76_0 : w74.cell? ⟨gb175, 0, none⟩ = some (.int .i64 0) := (blk_cell BK175.out 0).trans rfl; have hcz76_1 : w74.cell? ⟨gb175, 1, none⟩ = some (.int .i64 0) := (blk_cell BK175.out 1).trans rfl; have hcz76_2 : w74.cell? ⟨gb175, 2, none⟩ = some (.int .i64 0) := (blk_cell BK175.out 2).trans rfl; have hfz76_0 := blk_frozen BK175.out 0; have hfz76_1 := blk_frozen BK175.out 1; have hfz76_2 := blk_frozen BK175.out 2; have hcz77_0 : w74.cell? ⟨gb164, 0, none⟩ = some (.int .i64 ((rd_T66 l2 x45_3).f0)) := (blk_cell BK164.out 0).trans rfl; have hcz77_1 : w74.cell? ⟨gb164, 1, none⟩ = some (.int .i64 ((rd_T66 l2 x45_3).f1)) := (blk_cell BK164.out 1).trans rfl; have hcz77_2 : w74.cell? ⟨gb164, 2, none⟩ = some (.int .i64 ((rd_T66 l2 x45_3).f2)) := (blk_cell BK164.out 2).trans rfl; have hfz77_0 := blk_frozen BK164.out 0; have hfz77_1 := blk_frozen BK164.out 1; have hfz77_2 := blk_frozen BK164.out 2)))
                                                      (try simp only [← hl8_5])
                                                      go_roundg k5
                                                      case measure => have := HJ3.out; have := HK2.out; have := HK3.out; have := HJ26.out; have := HK5.out; omega
                                                      case rel => exact ⟨(wrap64 (x89_5 + 1)), (by first | rfl | (simp; done) | (simp [*]; done)), H', ⟨by have := HJ3.out; have := HK2.out; have := HK3.out; have := HJ26.out; have := HK5.out; omega⟩, ⟨by (try simp only [hl8_2]); (try simp only [hl8_3]); (try simp only [hl8_5]); (with_reducible repeat (first | apply Kd.R_alloc | apply Kd.R_drewN | apply Kd.R_drew)); exact Kd.R_mono (Kd.R_far (p := ⟨gb175, 2, none⟩) (Kd.R_far (p := ⟨gb175, 1, none⟩) (Kd.R_far (p := ⟨gb175, 0, none⟩) (Kd.R_types HO_8.out BK175.out (by decide)) (fun _ hk => hk.2) (.int .i64 ((rd_T66 y170 x89_5).f0))) (fun _ hk => hk.2) (.int .i64 ((rd_T66 y170 x89_5).f1))) (fun _ hk => hk.2) (.int .i64 ((rd_T66 y170 x89_5).f2))) (fun _ hk => trivial)⟩, ⟨by (try simp only [hl8_2]); (try simp only [hl8_3]); (try simp only [hl8_5]); (with_reducible repeat (first | refine blk_drewN ?_ _ | refine blk_drew ?_ | refine blk_alloc ?_ _)); refine blk_far ?_ NB164_175.out _; (with_reducible repeat (first | refine blk_drewN ?_ _ | refine blk_drew ?_ | refine blk_alloc ?_ _)); refine blk_far ?_ NB164_175.out _; (with_reducible repeat (first | refine blk_drewN ?_ _ | refine blk_drew ?_ | refine blk_alloc ?_ _)); refine blk_far ?_ NB164_175.out _; (with_reducible repeat (first | refine blk_drewN ?_ _ | refine blk_drew ?_ | refine blk_alloc ?_ _)); exact BK164.out⟩, ⟨by repeat (first | (with_reducible first | exact HB.out | apply below_alloc | apply pw_below_drewN | apply below_drew1 | refine below_set ?_ GE164.out | refine below_set ?_ GE175.out) | exact HB.out)⟩⟩
                                                  · rw [if_neg c54] at H
                                                    exact absurd H (by simp)
                                                · rw [if_neg c53] at H
                                                  exact absurd H (by simp)
                                              · rw [if_neg c52] at H
                                                have c52b0 : decide (x89_5 < (y170.length : Int)) = false := decide_eq_false c52
                                                try (have c52b0q := c52b0; rw [hl8_5] at c52b0q)
                                                clear c52
                                                have H' := Aside0.mk H
                                                clear H
                                                go_wp2
                                                repeat (go_quiet (fail); try go_wp2)
                                                (try simp only [← hl8_3, ← hl8_5])
                                                go_roundg k5
                                                case measure => have := HJ3.out; have := HK2.out; have := HK3.out; have := HJ26.out; have := HK5.out; omega
                                                case rel => exact ⟨(y169), (wrap64 (x45_3 + 1)), (by first | rfl | (simp; done) | (simp [*]; done)), H', ⟨by have := HJ3.out; have := HK2.out; have := HK3.out; have := HJ26.out; have := HK5.out; omega⟩, ⟨by (try simp only [hl8_2]); (try simp only [hl8_3]); (try simp only [hl8_5]); (with_reducible repeat (first | apply Kd.R_alloc | apply Kd.R_drewN | apply Kd.R_drew)); exact HO_8.out⟩, ⟨by repeat (first | (with_reducible first | exact HB.out | apply below_alloc | apply pw_below_drewN | apply below_drew1 | refine below_set ?_ GE164.out) | exact HB.out)⟩⟩
                                        · rw [if_neg c47] at H
                                          exact absurd H (by simp)
                                      · rw [if_neg c46] at H
                                        exact absurd H (by simp)
                                    · rw [if_neg c44] at H
                                      exact absurd H (by simp)
                                  · rw [if_neg c43] at H
                                    exact absurd H (by simp)
                          · rw [if_neg c26] at H
                            exact absurd H (by simp)
                        · rw [if_neg c25] at H
                          exact absurd H (by simp)
                      · rw [if_neg c24] at H
                        have c24b0 : decide (x45_3 < (l2.length : Int)) = false := decide_eq_false c24
                        try (have c24b0q := c24b0; rw [hl8_5] at c24b0q)
                        clear c24
                        have H' := Aside0.mk H
                        clear H
                        go_wp2
                        repeat (go_quiet (fail); try go_wp2)
                        go_loopg [130] k3 (fun kq v130 w' => ∃ (x130_4 : Int), v130 = .int .i64 x130_4 ∧ Aside0 (spec_IsSchedule.l3 kq l0 x8_3 l0 (l0.length : Int) x130_4 = some (r1, r2)) ∧ Aside0 (kq ≤ k3) ∧ Aside0 (Kd.R (Kd.int .i64) 3 w' w.heap.size (fun _ => True) (.slice Ao17 x8_3.length co17) x8_3) ∧ Aside0 (Below w.heap.size w w'))
                        case atStart => exact ⟨(0), (by first | rfl | (simp; done) | (simp [*]; done)), H', ⟨Nat.le_refl _⟩, ⟨by (try simp only [hl8_2]); (try simp only [hl8_3]); (with_reducible repeat (first | apply Kd.R_alloc | apply Kd.R_drewN | apply Kd.R_drew)); exact HO_8.out⟩, ⟨by repeat (first | (with_reducible first | exact HB.out | apply below_alloc | apply pw_below_drewN | apply below_drew1) | exact HB.out)⟩⟩
                        case round =>
                          clear H'
                          try clear c1
                          try clear p1
                          try clear q1
                          try clear hx1
                          try clear c2
                          try clear p2
                          try clear q2
                          try clear hx2
                          try clear c3
                          try clear c4
                          try clear p4
                          try clear q4
                          try clear hx4
                          try clear hf4
                          try clear c5
                          try clear q5
                          try clear c6
                          try clear p6
                          try clear c7
                          try clear c8
                          try clear c12
                          try clear c13
                          try clear c13b0
                          try clear c13b1
                          try clear c14
                          try clear c14b0
                          try clear c14b1
                          try clear p16
                          try clear q16
                          try clear hx16
                          try clear c17
                          try clear p17
                          try clear q17
                          try clear hx17
                          try clear c18
                          try clear c18b0
                          try clear c19
                          try clear c19b0
                          try clear c20
                          try clear c20b0
                          try clear p21
                          try clear q21
                          try clear hx21
                          try clear hf21
                          try clear c24
                          try clear c24b0
                          try clear c25
                          try clear c25b0
                          try clear c26
                          try clear c26b0
                          try clear c31
                          try clear c33
                          try clear c34
                          try clear c35
                          try clear c36
                          try clear c36b0
                          try clear c37
                          try clear c37b0
                          try clear c42
                          try clear c43
                          try clear c43b0
                          try clear c44
                          try clear c44b0
                          try clear p45
                          try clear q45
                          try clear hx45
                          try clear hf45
                          try clear c46
                          try clear c46b0
                          try clear c46b1
                          try clear c47
                          try clear c47b0
                          try clear c47b1
                          try clear q51
                          try clear c52
                          try clear c52b0
                          try clear c53
                          try clear c53b0
                          try clear c54
                          try clear c54b0
                          try clear c55
                          try clear c55b0
                          try clear c55b1
                          try clear c56
                          try clear c56b0
                          try clear c57
                          try clear c57b0
                          try clear c58
                          try clear c58b0
                          try clear c59
                          try clear c59b0
                          try clear c60
                          try clear c60b0
                          try clear c61
                          try clear c61b0
                          try clear c63
                          try clear p64
                          try clear c67
                          try clear c71
                          try clear c75
                          try clear hcz29_0
                          try clear hcz29_1
                          try clear hcz29_2
                          try clear hcz38_0
                          try clear hcz38_1
                          try clear hcz38_2
                          try clear hcz39_0
                          try clear hcz39_1
                          try clear hcz39_2
                          try clear hcz40_0
                          try clear hcz40_1
                          try clear hcz40_2
                          try clear hcz41_0
                          try clear hcz41_1
                          try clear hcz41_2
                          try clear hcz48_0
                          try clear hcz48_1
                          try clear hcz48_2
                          try clear hcz64_0
                          try clear hcz64_1
                          try clear hcz64_2
                          try clear hcz65_0
                          try clear hcz65_1
                          try clear hcz65_2
                          try clear hcz68_0
                          try clear hcz68_1
                          try clear hcz68_2
                          try clear hcz69_0
                          try clear hcz69_1
                          try clear hcz69_2
                          try clear hcz72_0
                          try clear hcz72_1
                          try clear hcz72_2
                          try clear hcz73_0
                          try clear hcz73_1
                          try clear hcz73_2
                          try clear hcz76_0
                          try clear hcz76_1
                          try clear hcz76_2
                          try clear hcz77_0
                          try clear hcz77_1
                          try clear hcz77_2
                          try clear hfz29_0
                          try clear hfz29_1
                          try clear hfz29_2
                          try clear hfz38_0
                          try clear hfz38_1
                          try clear hfz38_2
                          try clear hfz39_0
                          try clear hfz39_1
                          try clear hfz39_2
                          try clear hfz40_0
                          try clear hfz40_1
                          try clear hfz40_2
                          try clear hfz41_0
                          try clear hfz41_1
                          try clear hfz41_2
                          try clear hfz48_0
                          try clear hfz48_1
                          try clear hfz48_2
                          try clear hfz64_0
                          try clear hfz64_1
                          try clear hfz64_2
                          try clear hfz65_0
                          try clear hfz65_1
                          try clear hfz65_2
                          try clear hfz68_0
                          try clear hfz68_1
                          try clear hfz68_2
                          try clear hfz69_0
                          try clear hfz69_1
                          try clear hfz69_2
                          try clear hfz72_0
                          try clear hfz72_1
                          try clear hfz72_2
                          try clear hfz73_0
                          try clear hfz73_1
                          try clear hfz73_2
                          try clear hfz76_0
                          try clear hfz76_1
                          try clear hfz76_2
                          try clear hfz77_0
                          try clear hfz77_1
                          try clear hfz77_2
                          try clear hx163_0
                          try clear hx163_1
                          try clear hx163_2
                          try clear hx168_0
                          try clear hx174_0
                          try clear hx174_1
                          try clear hx174_2
                          try clear hx176_0
                          try clear hx176_1
                          try clear hx177_0
                          try clear hx177_1
                          try clear hx21_0
                          try clear hx45_0
                          try clear p1
                          try clear p16
                          try clear p163
                          try clear p168
                          try clear p174
                          try clear p176
                          try clear p177
                          try clear p2
                          try clear p21
                          try clear p4
                          try clear p45
                          try clear p6
                          try clear q1
                          try clear q16
                          try clear q163
                          try clear q168
                          try clear q174
                          try clear q176
                          try clear q177
                          try clear q2
                          try clear q21
                          try clear q4
                          try clear q45
                          try clear q5
                          try clear q51
                          obtain ⟨x130_4, rfl, HA, HK4, HO_8, HB⟩ := hrel
                          cases gk with
                          | zero => exact absurd HA.out (by simp [spec_IsSchedule.l3])
                          | succ k4 =>
                            have H := HA.out
                            clear HA
                            simp only [spec_IsSchedule.l3] at H
                            by_cases c78 : x130_4 < (l0.length : Int)
                            · rw [if_pos c78] at H
                              have c78b0 : decide (x130_4 < (l0.length : Int)) = true := decide_eq_true c78
                              clear c78
                              by_cases c79 : 0 ≤ x130_4
                              · rw [if_pos c79] at H
                                have c79b0 : decide (0 ≤ x130_4) = true := decide_eq_true c79
                                clear c79
                                by_cases c80 : x130_4 < (l0.length : Int)
                                · rw [if_pos c80] at H
                                  have c80b0 : decide (x130_4 < (l0.length : Int)) = true := decide_eq_true c80
                                  clear c80
                                  by_cases c81 : x130_4 < (x8_3.length : Int)
                                  · rw [if_pos c81] at H
                                    have c81b0 : decide (x130_4 < (x8_3.length : Int)) = true := decide_eq_true c81
                                    clear c81
                                    by_cases c82 : (rd x8_3 x130_4) < 0
                                    · rw [if_pos c82] at H
                                      have c82b0 : decide ((rd x8_3 x130_4) < 0) = true := decide_eq_true c82
                                      clear c82
                                      simp only [Option.some.injEq, Prod.mk.injEq] at H
                                      obtain ⟨rfl, rfl⟩ := H
                                      have p178 : 0 ≤ (x130_4 : Int) := of_decide_eq_true (by first | (with_reducible assumption) | assumption)
                                      have q178 : x130_4 < (l0.length : Int) := of_decide_eq_true (by first | (with_reducible assumption) | assumption)
                                      obtain ⟨ad178, A178_1, c178_1, e178, hx178_0, hx178_1, hl178_1, hi178_1⟩ := at_T53 HR0.out x130_4 p178 q178
                                      cases e178
                                      try replace hx178_0 := (HB.out.cell (World.block_lt_of_cell? w _ hx178_0)).trans hx178_0
                                      try replace hx178_1 := (HB.out.cell (World.block_lt_of_cell? w _ hx178_1)).trans hx178_1
                                      have HR178_1 := Aside0.mk hi178_1
                                      have HC178_1 := Aside0.mk hl178_1
                                      clear hi178_1 hl178_1
                                      replace p178 := eq_true p178
                                      replace q178 := eq_true q178
                                      go_wp2_with (first | ((with_reducible refine gate_dst (N := 15) rfl ?_); (try (refine gate_guard (by rfl) ?_; dsimp only)); refine box_event ?hg (N := 15) ?hd (cs := #[.int .i64 0, .slice none 0 0]) (t := 53) ?hr ?_; (case hd => rfl); (case hg => rfl); (case hr => first | (go_simp; done) | (go_simp; rfl)); intro gb179 hg w83 hbox hb; have n0_ := Aside0.mk (Kd.R_below (by (with_reducible repeat (first | apply Kd.R_alloc | apply Kd.R_drewN | apply Kd.R_drew)); exact HO_8.out) hb); have n1_ := Aside0.mk (below_step (by repeat (first | (with_reducible first | exact HB.out | apply below_alloc | apply pw_below_drewN | apply below_drew1) | exact HB.out)) hb); have n2_ := Aside0.mk (hbox); have n3_ := Aside0.mk ((by rw [hg]; exact (below_size (by repeat (first | (with_reducible first | exact HB.out | apply below_alloc | apply pw_below_drewN | apply below_drew1) | exact HB.out))) : w.heap.size ≤ gb179)); have n4_ := Aside0.mk ((by rw [hg]; exact (below_size (by repeat (first | (with_reducible first | exact HB.out | apply below_alloc | apply pw_below_drewN | apply below_drew1) | exact HB.out))) : w.heap.size ≤ gb179)); clear HO_8; clear HB; have HO_8 := n0_; have HB := n1_; have BK179 := n2_; have GW179 := n3_; have GE179 := n4_; clear n0_ n1_ n2_ n3_ n4_; clear hb hbox hg; have hcz84_0 : w83.cell? ⟨gb179, 0, none⟩ = some (.int .i64 0) := (blk_cell BK179.out 0).trans rfl; have hcz84_1 : w83.cell? ⟨gb179, 1, none⟩ = some (.slice none 0 0) := (blk_cell BK179.out 1).trans rfl; have hfz84_0 := blk_frozen BK179.out 0; have hfz84_1 := blk_frozen BK179.out 1; have p180 : 0 ≤ (x130_4 : Int) := of_decide_eq_true (by first | (with_reducible assumption) | assumption); have q180 : x130_4 < (x8_3.length : Int) := of_decide_eq_true (by first | (with_reducible assumption) | assumption); obtain ⟨ad180, e180, hx180_0⟩ := Kd.at_int (Kd.R_reads' HO_8.out).2.2 x130_4 p180 q180; cases e180; have hn180_0 : ad180.block ≠ gb179 := Kd.own_blk (Kd.R_ne HO_8.out BK179.out (by decide)); have hn180_1 : ad180.block ≠ gb179 := Kd.own_blk (Kd.R_ne HO_8.out BK179.out (by decide)); replace hx180_0 := (cell_far (p := ⟨gb179, 0, none⟩) (by first | (rw [add_block]; exact hn180_0) | (show (Addr.add _ _).block ≠ _; rw [add_block]; exact hn180_0) | exact hn180_0) (.int .i64 ((rd_T53 l0 x130_4).f0))).trans hx180_0; replace hx180_0 := (cell_far (p := ⟨gb179, 1, none⟩) (by first | (rw [add_block]; exact hn180_1) | (show (Addr.add _ _).block ≠ _; rw [add_block]; exact hn180_1) | exact hn180_1) (.slice A178_1 ((rd_T53 l0 x130_4).f1).length c178_1)).trans hx180_0; (try have hy180_0 := fun (n_ : Nat) => (show ((((w83.drewN n_).setCell ⟨gb179, 0, none⟩ (.int .i64 ((rd_T53 l0 x130_4).f0))).setCell ⟨gb179, 1, none⟩ (.slice A178_1 ((rd_T53 l0 x130_4).f1).length c178_1))).cell? _ = some _ from hx180_0)); clear hn180_0; clear hn180_1; replace p180 := eq_true p180; replace q180 := eq_true q180))
                                      repeat (go_quiet (first | ((with_reducible refine gate_dst (N := 15) rfl ?_); (try (refine gate_guard (by rfl) ?_; dsimp only)); refine box_event ?hg (N := 15) ?hd (cs := #[.int .i64 0, .slice none 0 0]) (t := 53) ?hr ?_; (case hd => rfl); (case hg => rfl); (case hr => first | (go_simp; done) | (go_simp; rfl)); intro gb179 hg w83 hbox hb; have n0_ := Aside0.mk (Kd.R_below (by (with_reducible repeat (first | apply Kd.R_alloc | apply Kd.R_drewN | apply Kd.R_drew)); exact HO_8.out) hb); have n1_ := Aside0.mk (below_step (by repeat (first | (with_reducible first | exact HB.out | apply below_alloc | apply pw_below_drewN | apply below_drew1) | exact HB.out)) hb); have n2_ := Aside0.mk (hbox); have n3_ := Aside0.mk ((by rw [hg]; exact (below_size (by repeat (first | (with_reducible first | exact HB.out | apply below_alloc | apply pw_below_drewN | apply below_drew1) | exact HB.out))) : w.heap.size ≤ gb179)); have n4_ := Aside0.mk ((by rw [hg]; exact (below_size (by repeat (first | (with_reducible first | exact HB.out | apply below_alloc | apply pw_below_drewN | apply below_drew1) | exact HB.out))) : w.heap.size ≤ gb179)); clear HO_8; clear HB; have HO_8 := n0_; have HB := n1_; have BK179 := n2_; have GW179 := n3_; have GE179 := n4_; clear n0_ n1_ n2_ n3_ n4_; clear hb hbox hg; have hcz84_0 : w83.cell? ⟨gb179, 0, none⟩ = some (.int .i64 0) := (blk_cell BK179.out 0).trans rfl; have hcz84_1 : w83.cell? ⟨gb179, 1, none⟩ = some (.slice none 0 0) := (blk_cell BK179.out 1).trans rfl; have hfz84_0 := blk_frozen BK179.out 0; have hfz84_1 := blk_frozen BK179.out 1; have p180 : 0 ≤ (x130_4 : Int) := of_decide_eq_true (by first | (with_reducible assumption) | assumption); have q180 : x130_4 < (x8_3.length : Int) := of_decide_eq_true (by first | (with_reducible assumption) | assumption); obtain ⟨ad180, e180, hx180_0⟩ := Kd.at_int (Kd.R_reads' HO_8.out).2.2 x130_4 p180 q180; cases e180; have hn180_0 : ad180.block ≠ gb179 := Kd.own_blk (Kd.R_ne HO_8.out BK179.out (by decide)); have hn180_1 : ad180.block ≠ gb179 := Kd.own_blk (Kd.R_ne HO_8.out BK179.out (by decide)); replace hx180_0 := (cell_far (p := ⟨gb179, 0, none⟩) (by first | (rw [add_block]; exact hn180_0) | (show (Addr.add _ _).block ≠ _; rw [add_block]; exact hn180_0) | exact hn180_0) (.int .i64 ((rd_T53 l0 x130_4).f0))).trans hx180_0; replace hx180_0 := (cell_far (p := ⟨gb179, 1, none⟩) (by first | (rw [add_block]; exact hn180_1) | (show (Addr.add _ _).block ≠ _; rw [add_block]; exact hn180_1) | exact hn180_1) (.slice A178_1 ((rd_T53 l0 x130_4).f1).length c178_1)).trans hx180_0; (try have hy180_0 := fun (n_ : Nat) => (show ((((w83.drewN n_).setCell ⟨gb179, 0, none⟩ (.int .i64 ((rd_T53 l0 x130_4).f0))).setCell ⟨gb179, 1, none⟩ (.slice A178_1 ((rd_T53 l0 x130_4).f1).length c178_1))).cell? _ = some _ from hx180_0)); clear hn180_0; clear hn180_1; replace p180 := eq_true p180; replace q180 := eq_true q180)); try go_wp2_with (first | ((with_reducible refine gate_dst (N := 15) rfl ?_); (try (refine gate_guard (by rfl) ?_; dsimp only)); refine box_event ?hg (N := 15) ?hd (cs := #[.int .i64 0, .slice none 0 0]) (t := 53) ?hr ?_; (case hd => rfl); (case hg => rfl); (case hr => first | (go_simp; done) | (go_simp; rfl)); intro gb179 hg w83 hbox hb; have n0_ := Aside0.mk (Kd.R_below (by (with_reducible repeat (first | apply Kd.R_alloc | apply Kd.R_drewN | apply Kd.R_drew)); exact HO_8.out) hb); have n1_ := Aside0.mk (below_step (by repeat (first | (with_reducible first | exact HB.out | apply below_alloc | apply pw_below_drewN | apply below_drew1) | exact HB.out)) hb); have n2_ := Aside0.mk (hbox); have n3_ := Aside0.mk ((by rw [hg]; exact (below_size (by repeat (first | (with_reducible first | exact HB.out | apply below_alloc | apply pw_below_drewN | apply below_drew1) | exact HB.out))) : w.heap.size ≤ gb179)); have n4_ := Aside0.mk ((by rw [hg]; exact (below_size (by repeat (first | (with_reducible first | exact HB.out | apply below_alloc | apply pw_below_drewN | apply below_drew1) | exact HB.out))) : w.heap.size ≤ gb179)); clear HO_8; clear HB; have HO_8 := n0_; have HB := n1_; have BK179 := n2_; have GW179 := n3_; have GE179 := n4_; clear n0_ n1_ n2_ n3_ n4_; clear hb hbox hg; have hcz84_0 : w83.cell? ⟨gb179, 0, none⟩ = some (.int .i64 0) := (blk_cell BK179.out 0).trans rfl; have hcz84_1 : w83.cell? ⟨gb179, 1, none⟩ = some (.slice none 0 0) := (blk_cell BK179.out 1).trans rfl; have hfz84_0 := blk_frozen BK179.out 0; have hfz84_1 := blk_frozen BK179.out 1; have p180 : 0 ≤ (x130_4 : Int) := of_decide_eq_true (by first | (with_reducible assumption) | assumption); have q180 : x130_4 < (x8_3.length : Int) := of_decide_eq_true (by first | (with_reducible assumption) | assumption); obtain ⟨ad180, e180, hx180_0⟩ := Kd.at_int (Kd.R_reads' HO_8.out).2.2 x130_4 p180 q180; cases e180; have hn180_0 : ad180.block ≠ gb179 := Kd.own_blk (Kd.R_ne HO_8.out BK179.out (by decide)); have hn180_1 : ad180.block ≠ gb179 := Kd.own_blk (Kd.R_ne HO_8.out BK179.out (by decide)); replace hx180_0 := (cell_far (p := ⟨gb179, 0, none⟩) (by first | (rw [add_block]; exact hn180_0) | (show (Addr.add _ _).block ≠ _; rw [add_block]; exact hn180_0) | exact hn180_0) (.int .i64 ((rd_T53 l0 x130_4).f0))).trans hx180_0; replace hx180_0 := (cell_far (p := ⟨gb179, 1, none⟩) (by first | (rw [add_block]; exact hn180_1) | (show (Addr.add _ _).block ≠ _; rw [add_block]; exact hn180_1) | exact hn180_1) (.slice A178_1 ((rd_T53 l0 x130_4).f1).length c178_1)).trans hx180_0; (try have hy180_0 := fun (n_ : Nat) => (show ((((w83.drewN n_).setCell ⟨gb179, 0, none⟩ (.int .i64 ((rd_T53 l0 x130_4).f0))).setCell ⟨gb179, 1, none⟩ (.slice A178_1 ((rd_T53 l0 x130_4).f1).length c178_1))).cell? _ = some _ from hx180_0)); clear hn180_0; clear hn180_1; replace p180 := eq_true p180; replace q180 := eq_true q180)))
                                      go_ret2
                                      exact ⟨by first | rfl | (simp [errW_none, errW_some] <;> rfl) | (simp [*, errW_none, errW_some] <;> rfl), by repeat (first | (with_reducible first | exact HB.out | apply below_alloc | apply pw_below_drewN | apply below_drew1 | refine below_set ?_ GE179.out) | exact HB.out)⟩
                                    · rw [if_neg c82] at H
                                      have c82b0 : decide ((rd x8_3 x130_4) < 0) = false := decide_eq_false c82
                                      clear c82
                                      have H' := Aside0.mk H
                                      clear H
                                      have p178 : 0 ≤ (x130_4 : Int) := of_decide_eq_true (by first | (with_reducible assumption) | assumption)
                                      have q178 : x130_4 < (l0.length : Int) := of_decide_eq_true (by first | (with_reducible assumption) | assumption)
                                      obtain ⟨ad178, A178_1, c178_1, e178, hx178_0, hx178_1, hl178_1, hi178_1⟩ := at_T53 HR0.out x130_4 p178 q178
                                      cases e178
                                      try replace hx178_0 := (HB.out.cell (World.block_lt_of_cell? w _ hx178_0)).trans hx178_0
                                      try replace hx178_1 := (HB.out.cell (World.block_lt_of_cell? w _ hx178_1)).trans hx178_1
                                      have HR178_1 := Aside0.mk hi178_1
                                      have HC178_1 := Aside0.mk hl178_1
                                      clear hi178_1 hl178_1
                                      replace p178 := eq_true p178
                                      replace q178 := eq_true q178
                                      go_wp2_with (first | ((with_reducible refine gate_dst (N := 15) rfl ?_); (try (refine gate_guard (by rfl) ?_; dsimp only)); refine box_event ?hg (N := 15) ?hd (cs := #[.int .i64 0, .slice none 0 0]) (t := 53) ?hr ?_; (case hd => rfl); (case hg => rfl); (case hr => first | (go_simp; done) | (go_simp; rfl)); intro gb179 hg w85 hbox hb; have n0_ := Aside0.mk (Kd.R_below (by (with_reducible repeat (first | apply Kd.R_alloc | apply Kd.R_drewN | apply Kd.R_drew)); exact HO_8.out) hb); have n1_ := Aside0.mk (below_step (by repeat (first | (with_reducible first | exact HB.out | apply below_alloc | apply pw_below_drewN | apply below_drew1) | exact HB.out)) hb); have n2_ := Aside0.mk (hbox); have n3_ := Aside0.mk ((by rw [hg]; exact (below_size (by repeat (first | (with_reducible first | exact HB.out | apply below_alloc | apply pw_below_drewN | apply below_drew1) | exact HB.out))) : w.heap.size ≤ gb179)); have n4_ := Aside0.mk ((by rw [hg]; exact (below_size (by repeat (first | (with_reducible first | exact HB.out | apply below_alloc | apply pw_below_drewN | apply below_drew1) | exact HB.out))) : w.heap.size ≤ gb179)); clear HO_8; clear HB; have HO_8 := n0_; have HB := n1_; have BK179 := n2_; have GW179 := n3_; have GE179 := n4_; clear n0_ n1_ n2_ n3_ n4_; clear hb hbox hg; have hcz86_0 : w85.cell? ⟨gb179, 0, none⟩ = some (.int .i64 0) := (blk_cell BK179.out 0).trans rfl; have hcz86_1 : w85.cell? ⟨gb179, 1, none⟩ = some (.slice none 0 0) := (blk_cell BK179.out 1).trans rfl; have hfz86_0 := blk_frozen BK179.out 0; have hfz86_1 := blk_frozen BK179.out 1; have p180 : 0 ≤ (x130_4 : Int) := of_decide_eq_true (by first | (with_reducible assumption) | assumption); have q180 : x130_4 < (x8_3.length : Int) := of_decide_eq_true (by first | (with_reducible assumption) | assumption); obtain ⟨ad180, e180, hx180_0⟩ := Kd.at_int (Kd.R_reads' HO_8.out).2.2 x130_4 p180 q180; cases e180; have hn180_0 : ad180.block ≠ gb179 := Kd.own_blk (Kd.R_ne HO_8.out BK179.out (by decide)); have hn180_1 : ad180.block ≠ gb179 := Kd.own_blk (Kd.R_ne HO_8.out BK179.out (by decide)); replace hx180_0 := (cell_far (p := ⟨gb179, 0, none⟩) (by first | (rw [add_block]; exact hn180_0) | (show (Addr.add _ _).block ≠ _; rw [add_block]; exact hn180_0) | exact hn180_0) (.int .i64 ((rd_T53 l0 x130_4).f0))).trans hx180_0; replace hx180_0 := (cell_far (p := ⟨gb179, 1, none⟩) (by first | (rw [add_block]; exact hn180_1) | (show (Addr.add _ _).block ≠ _; rw [add_block]; exact hn180_1) | exact hn180_1) (.slice A178_1 ((rd_T53 l0 x130_4).f1).length c178_1)).trans hx180_0; (try have hy180_0 := fun (n_ : Nat) => (show ((((w85.drewN n_).setCell ⟨gb179, 0, none⟩ (.int .i64 ((rd_T53 l0 x130_4).f0))).setCell ⟨gb179, 1, none⟩ (.slice A178_1 ((rd_T53 l0 x130_4).f1).length c178_1))).cell? _ = some _ from hx180_0)); clear hn180_0; clear hn180_1; replace p180 := eq_true p180; replace q180 := eq_true q180))
                                      repeat (go_quiet (first | ((with_reducible refine gate_dst (N := 15) rfl ?_); (try (refine gate_guard (by rfl) ?_; dsimp only)); refine box_event ?hg (N := 15) ?hd (cs := #[.int .i64 0, .slice none 0 0]) (t := 53) ?hr ?_; (case hd => rfl); (case hg => rfl); (case hr => first | (go_simp; done) | (go_simp; rfl)); intro gb179 hg w85 hbox hb; have n0_ := Aside0.mk (Kd.R_below (by (with_reducible repeat (first | apply Kd.R_alloc | apply Kd.R_drewN | apply Kd.R_drew)); exact HO_8.out) hb); have n1_ := Aside0.mk (below_step (by repeat (first | (with_reducible first | exact HB.out | apply below_alloc | apply pw_below_drewN | apply below_drew1) | exact HB.out)) hb); have n2_ := Aside0.mk (hbox); have n3_ := Aside0.mk ((by rw [hg]; exact (below_size (by repeat (first | (with_reducible first | exact HB.out | apply below_alloc | apply pw_below_drewN | apply below_drew1) | exact HB.out))) : w.heap.size ≤ gb179)); have n4_ := Aside0.mk ((by rw [hg]; exact (below_size (by repeat (first | (with_reducible first | exact HB.out | apply below_alloc | apply pw_below_drewN | apply below_drew1) | exact HB.out))) : w.heap.size ≤ gb179)); clear HO_8; clear HB; have HO_8 := n0_; have HB := n1_; have BK179 := n2_; have GW179 := n3_; have GE179 := n4_; clear n0_ n1_ n2_ n3_ n4_; clear hb hbox hg; have hcz86_0 : w85.cell? ⟨gb179, 0, none⟩ = some (.int .i64 0) := (blk_cell BK179.out 0).trans rfl; have hcz86_1 : w85.cell? ⟨gb179, 1, none⟩ = some (.slice none 0 0) := (blk_cell BK179.out 1).trans rfl; have hfz86_0 := blk_frozen BK179.out 0; have hfz86_1 := blk_frozen BK179.out 1; have p180 : 0 ≤ (x130_4 : Int) := of_decide_eq_true (by first | (with_reducible assumption) | assumption); have q180 : x130_4 < (x8_3.length : Int) := of_decide_eq_true (by first | (with_reducible assumption) | assumption); obtain ⟨ad180, e180, hx180_0⟩ := Kd.at_int (Kd.R_reads' HO_8.out).2.2 x130_4 p180 q180; cases e180; have hn180_0 : ad180.block ≠ gb179 := Kd.own_blk (Kd.R_ne HO_8.out BK179.out (by decide)); have hn180_1 : ad180.block ≠ gb179 := Kd.own_blk (Kd.R_ne HO_8.out BK179.out (by decide)); replace hx180_0 := (cell_far (p := ⟨gb179, 0, none⟩) (by first | (rw [add_block]; exact hn180_0) | (show (Addr.add _ _).block ≠ _; rw [add_block]; exact hn180_0) | exact hn180_0) (.int .i64 ((rd_T53 l0 x130_4).f0))).trans hx180_0; replace hx180_0 := (cell_far (p := ⟨gb179, 1, none⟩) (by first | (rw [add_block]; exact hn180_1) | (show (Addr.add _ _).block ≠ _; rw [add_block]; exact hn180_1) | exact hn180_1) (.slice A178_1 ((rd_T53 l0 x130_4).f1).length c178_1)).trans hx180_0; (try have hy180_0 := fun (n_ : Nat) => (show ((((w85.drewN n_).setCell ⟨gb179, 0, none⟩ (.int .i64 ((rd_T53 l0 x130_4).f0))).setCell ⟨gb179, 1, none⟩ (.slice A178_1 ((rd_T53 l0 x130_4).f1).length c178_1))).cell? _ = some _ from hx180_0)); clear hn180_0; clear hn180_1; replace p180 := eq_true p180; replace q180 := eq_true q180)); try go_wp2_with (first | ((with_reducible refine gate_dst (N := 15) rfl ?_); (try (refine gate_guard (by rfl) ?_; dsimp only)); refine box_event ?hg (N := 15) ?hd (cs := #[.int .i64 0, .slice none 0 0]) (t := 53) ?hr ?_; (case hd => rfl); (case hg => rfl); (case hr => first | (go_simp; done) | (go_simp; rfl)); intro gb179 hg w85 hbox hb; have n0_ := Aside0.mk (Kd.R_below (by (with_reducible repeat (first | apply Kd.R_alloc | apply Kd.R_drewN | apply Kd.R_drew)); exact HO_8.out) hb); have n1_ := Aside0.mk (below_step (by repeat (first | (with_reducible first | exact HB.out | apply below_alloc | apply pw_below_drewN | apply below_drew1) | exact HB.out)) hb); have n2_ := Aside0.mk (hbox); have n3_ := Aside0.mk ((by rw [hg]; exact (below_size (by repeat (first | (with_reducible first | exact HB.out | apply below_alloc | apply pw_below_drewN | apply below_drew1) | exact HB.out))) : w.heap.size ≤ gb179)); have n4_ := Aside0.mk ((by rw [hg]; exact (below_size (by repeat (first | (with_reducible first | exact HB.out | apply below_alloc | apply pw_below_drewN | apply below_drew1) | exact HB.out))) : w.heap.size ≤ gb179)); clear HO_8; clear HB; have HO_8 := n0_; have HB := n1_; have BK179 := n2_; have GW179 := n3_; have GE179 := n4_; clear n0_ n1_ n2_ n3_ n4_; clear hb hbox hg; have hcz86_0 : w85.cell? ⟨gb179, 0, none⟩ = some (.int .i64 0) := (blk_cell BK179.out 0).trans rfl; have hcz86_1 : w85.cell? ⟨gb179, 1, none⟩ = some (.slice none 0 0) := (blk_cell BK179.out 1).trans rfl; have hfz86_0 := blk_frozen BK179.out 0; have hfz86_1 := blk_frozen BK179.out 1; have p180 : 0 ≤ (x130_4 : Int) := of_decide_eq_true (by first | (with_reducible assumption) | assumption); have q180 : x130_4 < (x8_3.length : Int) := of_decide_eq_true (by first | (with_reducible assumption) | assumption); obtain ⟨ad180, e180, hx180_0⟩ := Kd.at_int (Kd.R_reads' HO_8.out).2.2 x130_4 p180 q180; cases e180; have hn180_0 : ad180.block ≠ gb179 := Kd.own_blk (Kd.R_ne HO_8.out BK179.out (by decide)); have hn180_1 : ad180.block ≠ gb179 := Kd.own_blk (Kd.R_ne HO_8.out BK179.out (by decide)); replace hx180_0 := (cell_far (p := ⟨gb179, 0, none⟩) (by first | (rw [add_block]; exact hn180_0) | (show (Addr.add _ _).block ≠ _; rw [add_block]; exact hn180_0) | exact hn180_0) (.int .i64 ((rd_T53 l0 x130_4).f0))).trans hx180_0; replace hx180_0 := (cell_far (p := ⟨gb179, 1, none⟩) (by first | (rw [add_block]; exact hn180_1) | (show (Addr.add _ _).block ≠ _; rw [add_block]; exact hn180_1) | exact hn180_1) (.slice A178_1 ((rd_T53 l0 x130_4).f1).length c178_1)).trans hx180_0; (try have hy180_0 := fun (n_ : Nat) => (show ((((w85.drewN n_).setCell ⟨gb179, 0, none⟩ (.int .i64 ((rd_T53 l0 x130_4).f0))).setCell ⟨gb179, 1, none⟩ (.slice A178_1 ((rd_T53 l0 x130_4).f1).length c178_1))).cell? _ = some _ from hx180_0)); clear hn180_0; clear hn180_1; replace p180 := eq_true p180; replace q180 := eq_true q180)))
                                      go_loopg [143] k4 (fun kq v143 w' => ∃ (x143_5 : Int), v143 = .int .i64 x143_5 ∧ Aside0 (spec_IsSchedule.l4 kq l0 x8_3 x130_4 l0 (l0.length : Int) x130_4 ((rd_T53 l0 x130_4).f1) (((rd_T53 l0 x130_4).f1).length : Int) x143_5 = some (r1, r2)) ∧ Aside0 (kq ≤ k4) ∧ Aside0 (Kd.R (Kd.int .i64) 3 w' w.heap.size (fun _ => True) (.slice (some ad180) x8_3.length co17) x8_3) ∧ Aside0 (w'.heap[gb179]? = some (.cells #[.int .i64 ((rd_T53 l0 x130_4).f0), (.slice A178_1 ((rd_T53 l0 x130_4).f1).length c178_1)] 53 (0, 0))) ∧ Aside0 (Below w.heap.size w w'))
                                      case atStart => exact ⟨(0), (by first | rfl | (simp; done) | (simp [*]; done)), H', ⟨Nat.le_refl _⟩, ⟨by (try simp only [hl8_2]); (try simp only [hl8_3]); (with_reducible repeat (first | apply Kd.R_alloc | apply Kd.R_drewN | apply Kd.R_drew)); exact Kd.R_mono (Kd.R_far (p := ⟨gb179, 1, none⟩) (Kd.R_far (p := ⟨gb179, 0, none⟩) (Kd.R_types HO_8.out BK179.out (by decide)) (fun _ hk => hk.2) (.int .i64 ((rd_T53 l0 x130_4).f0))) (fun _ hk => hk.2) (.slice A178_1 ((rd_T53 l0 x130_4).f1).length c178_1)) (fun _ hk => trivial)⟩, ⟨by (try simp only [hl8_2]); (try simp only [hl8_3]); (with_reducible repeat (first | refine blk_drewN ?_ _ | refine blk_drew ?_ | refine blk_alloc ?_ _)); refine blk_put (cs := #[.int .i64 ((rd_T53 l0 x130_4).f0), .slice none 0 0]) ?_ 1 _ rfl; (with_reducible repeat (first | refine blk_drewN ?_ _ | refine blk_drew ?_ | refine blk_alloc ?_ _)); refine blk_put (cs := #[.int .i64 0, .slice none 0 0]) ?_ 0 _ rfl; (with_reducible repeat (first | refine blk_drewN ?_ _ | refine blk_drew ?_ | refine blk_alloc ?_ _)); exact BK179.out⟩, ⟨by repeat (first | (with_reducible first | exact HB.out | apply below_alloc | apply pw_below_drewN | apply below_drew1 | refine below_set ?_ GE179.out) | exact HB.out)⟩⟩
                                      case round =>
                                        clear H'
                                        try clear c1
                                        try clear p1
                                        try clear q1
                                        try clear hx1
                                        try clear c2
                                        try clear p2
                                        try clear q2
                                        try clear hx2
                                        try clear c3
                                        try clear c4
                                        try clear p4
                                        try clear q4
                                        try clear hx4
                                        try clear hf4
                                        try clear c5
                                        try clear q5
                                        try clear c6
                                        try clear p6
                                        try clear c7
                                        try clear c8
                                        try clear c12
                                        try clear c13
                                        try clear c13b0
                                        try clear c13b1
                                        try clear c14
                                        try clear c14b0
                                        try clear c14b1
                                        try clear p16
                                        try clear q16
                                        try clear hx16
                                        try clear c17
                                        try clear p17
                                        try clear q17
                                        try clear hx17
                                        try clear c18
                                        try clear c18b0
                                        try clear p18
                                        try clear q18
                                        try clear hx18
                                        try clear c19
                                        try clear c19b0
                                        try clear c20
                                        try clear c20b0
                                        try clear p21
                                        try clear q21
                                        try clear hx21
                                        try clear hf21
                                        try clear c24
                                        try clear c24b0
                                        try clear c25
                                        try clear c25b0
                                        try clear c26
                                        try clear c26b0
                                        try clear c31
                                        try clear c33
                                        try clear c34
                                        try clear c35
                                        try clear c36
                                        try clear c36b0
                                        try clear c37
                                        try clear c37b0
                                        try clear c42
                                        try clear c43
                                        try clear c43b0
                                        try clear c44
                                        try clear c44b0
                                        try clear p45
                                        try clear q45
                                        try clear hx45
                                        try clear hf45
                                        try clear c46
                                        try clear c46b0
                                        try clear c46b1
                                        try clear c47
                                        try clear c47b0
                                        try clear c47b1
                                        try clear q51
                                        try clear c52
                                        try clear c52b0
                                        try clear c53
                                        try clear c53b0
                                        try clear c54
                                        try clear c54b0
                                        try clear c55
                                        try clear c55b0
                                        try clear c55b1
                                        try clear c56
                                        try clear c56b0
                                        try clear c57
                                        try clear c57b0
                                        try clear c58
                                        try clear c58b0
                                        try clear c59
                                        try clear c59b0
                                        try clear c60
                                        try clear c60b0
                                        try clear c61
                                        try clear c61b0
                                        try clear c63
                                        try clear p64
                                        try clear c67
                                        try clear c71
                                        try clear c75
                                        try clear c78
                                        try clear c78b0
                                        try clear c79
                                        try clear c79b0
                                        try clear c80
                                        try clear c80b0
                                        try clear c81
                                        try clear c81b0
                                        try clear c82
                                        try clear c82b0
                                        try clear hcz29_0
                                        try clear hcz29_1
                                        try clear hcz29_2
                                        try clear hcz38_0
                                        try clear hcz38_1
                                        try clear hcz38_2
                                        try clear hcz39_0
                                        try clear hcz39_1
                                        try clear hcz39_2
                                        try clear hcz40_0
                                        try clear hcz40_1
                                        try clear hcz40_2
                                        try clear hcz41_0
                                        try clear hcz41_1
                                        try clear hcz41_2
                                        try clear hcz48_0
                                        try clear hcz48_1
                                        try clear hcz48_2
                                        try clear hcz64_0
                                        try clear hcz64_1
                                        try clear hcz64_2
                                        try clear hcz65_0
                                        try clear hcz65_1
                                        try clear hcz65_2
                                        try clear hcz68_0
                                        try clear hcz68_1
                                        try clear hcz68_2
                                        try clear hcz69_0
                                        try clear hcz69_1
                                        try clear hcz69_2
                                        try clear hcz72_0
                                        try clear hcz72_1
                                        try clear hcz72_2
                                        try clear hcz73_0
                                        try clear hcz73_1
                                        try clear hcz73_2
                                        try clear hcz76_0
                                        try clear hcz76_1
                                        try clear hcz76_2
                                        try clear hcz77_0
                                        try clear hcz77_1
                                        try clear hcz77_2
                                        try clear hcz84_0
                                        try clear hcz84_1
                                        try clear hcz86_0
                                        try clear hcz86_1
                                        try clear hfz29_0
                                        try clear hfz29_1
                                        try clear hfz29_2
                                        try clear hfz38_0
                                        try clear hfz38_1
                                        try clear hfz38_2
                                        try clear hfz39_0
                                        try clear hfz39_1
                                        try clear hfz39_2
                                        try clear hfz40_0
                                        try clear hfz40_1
                                        try clear hfz40_2
                                        try clear hfz41_0
                                        try clear hfz41_1
                                        try clear hfz41_2
                                        try clear hfz48_0
                                        try clear hfz48_1
                                        try clear hfz48_2
                                        try clear hfz64_0
                                        try clear hfz64_1
                                        try clear hfz64_2
                                        try clear hfz65_0
                                        try clear hfz65_1
                                        try clear hfz65_2
                                        try clear hfz68_0
                                        try clear hfz68_1
                                        try clear hfz68_2
                                        try clear hfz69_0
                                        try clear hfz69_1
                                        try clear hfz69_2
                                        try clear hfz72_0
                                        try clear hfz72_1
                                        try clear hfz72_2
                                        try clear hfz73_0
                                        try clear hfz73_1
                                        try clear hfz73_2
                                        try clear hfz76_0
                                        try clear hfz76_1
                                        try clear hfz76_2
                                        try clear hfz77_0
                                        try clear hfz77_1
                                        try clear hfz77_2
                                        try clear hfz84_0
                                        try clear hfz84_1
                                        try clear hfz86_0
                                        try clear hfz86_1
                                        try clear hx163_0
                                        try clear hx163_1
                                        try clear hx163_2
                                        try clear hx168_0
                                        try clear hx174_0
                                        try clear hx174_1
                                        try clear hx174_2
                                        try clear hx176_0
                                        try clear hx176_1
                                        try clear hx177_0
                                        try clear hx177_1
                                        try clear hx178_0
                                        try clear hx178_1
                                        try clear hx180_0
                                        try clear hx21_0
                                        try clear hx45_0
                                        try clear p1
                                        try clear p16
                                        try clear p163
                                        try clear p168
                                        try clear p17
                                        try clear p174
                                        try clear p176
                                        try clear p177
                                        try clear p178
                                        try clear p180
                                        try clear p2
                                        try clear p21
                                        try clear p4
                                        try clear p45
                                        try clear p6
                                        try clear p64
                                        try clear q1
                                        try clear q16
                                        try clear q163
                                        try clear q168
                                        try clear q17
                                        try clear q174
                                        try clear q176
                                        try clear q177
                                        try clear q178
                                        try clear q180
                                        try clear q2
                                        try clear q21
                                        try clear q4
                                        try clear q45
                                        try clear q5
                                        try clear q51
                                        obtain ⟨x143_5, rfl, HA, HK5, HO_8, BK179, HB⟩ := hrel
                                        cases gk with
                                        | zero => exact absurd HA.out (by simp [spec_IsSchedule.l4])
                                        | succ k5 =>
                                          have H := HA.out
                                          clear HA
                                          simp only [spec_IsSchedule.l4] at H
                                          by_cases c87 : x143_5 < (((rd_T53 l0 x130_4).f1).length : Int)
                                          · rw [if_pos c87] at H
                                            have c87b0 : decide (x143_5 < (((rd_T53 l0 x130_4).f1).length : Int)) = true := decide_eq_true c87
                                            clear c87
                                            by_cases c88 : 0 ≤ x143_5
                                            · rw [if_pos c88] at H
                                              have c88b0 : decide (0 ≤ x143_5) = true := decide_eq_true c88
                                              clear c88
                                              by_cases c89 : x143_5 < (((rd_T53 l0 x130_4).f1).length : Int)
                                              · rw [if_pos c89] at H
                                                have c89b0 : decide (x143_5 < (((rd_T53 l0 x130_4).f1).length : Int)) = true := decide_eq_true c89
                                                clear c89
                                                by_cases c90 : 0 ≤ (rd ((rd_T53 l0 x130_4).f1) x143_5)
                                                · rw [if_pos c90] at H
                                                  have c90b0 : decide (0 ≤ (rd ((rd_T53 l0 x130_4).f1) x143_5)) = true := decide_eq_true c90
                                                  clear c90
                                                  by_cases c91 : (rd ((rd_T53 l0 x130_4).f1) x143_5) < (x8_3.length : Int)
                                                  · rw [if_pos c91] at H
                                                    have c91b0 : decide ((rd ((rd_T53 l0 x130_4).f1) x143_5) < (x8_3.length : Int)) = true := decide_eq_true c91
                                                    clear c91
                                                    by_cases c92 : (rd ((rd_T53 l0 x130_4).f1) x143_5) < (l0.length : Int)
                                                    · rw [if_pos c92] at H
                                                      have c92b0 : decide ((rd ((rd_T53 l0 x130_4).f1) x143_5) < (l0.length : Int)) = true := decide_eq_true c92
                                                      clear c92
                                                      by_cases c93 : 0 ≤ x130_4
                                                      · rw [if_pos c93] at H
                                                        have c93b0 : decide (0 ≤ x130_4) = true := decide_eq_true c93
                                                        clear c93
                                                        by_cases c94 : x130_4 < (x8_3.length : Int)
                                                        · rw [if_pos c94] at H
                                                          have c94b0 : decide (x130_4 < (x8_3.length : Int)) = true := decide_eq_true c94
                                                          clear c94
                                                          by_cases c95 : (wrap64 ((rd x8_3 (rd ((rd_T53 l0 x130_4).f1) x143_5)) + ((rd_T53 l0 (rd ((rd_T53 l0 x130_4).f1) x143_5)).f0))) > (rd x8_3 x130_4)
                                                          · rw [if_pos c95] at H
                                                            have c95b0 : decide ((rd x8_3 x130_4) < (wrap64 ((rd x8_3 (rd ((rd_T53 l0 x130_4).f1) x143_5)) + ((rd_T53 l0 (rd ((rd_T53 l0 x130_4).f1) x143_5)).f0)))) = true := decide_eq_true c95
                                                            clear c95
                                                            simp only [Option.some.injEq, Prod.mk.injEq] at H
                                                            obtain ⟨rfl, rfl⟩ := H
                                                            have p181 : 0 ≤ (x143_5 : Int) := of_decide_eq_true (by first | (with_reducible assumption) | assumption)
                                                            have q181 : x143_5 < (((rd_T53 l0 x130_4).f1).length : Int) := of_decide_eq_true (by first | (with_reducible assumption) | assumption)
                                                            obtain ⟨ad181, e181, hx181_0⟩ := Kd.at_int HR178_1.out x143_5 p181 q181
                                                            cases e181
                                                            try replace hx181_0 := (HB.out.cell (World.block_lt_of_cell? w _ hx181_0)).trans hx181_0
                                                            replace p181 := eq_true p181
                                                            replace q181 := eq_true q181
                                                            have p182 : 0 ≤ ((rd ((rd_T53 l0 x130_4).f1) x143_5) : Int) := of_decide_eq_true (by first | (with_reducible assumption) | assumption)
                                                            have q182 : (rd ((rd_T53 l0 x130_4).f1) x143_5) < (x8_3.length : Int) := of_decide_eq_true (by first | (with_reducible assumption) | assumption)
                                                            obtain ⟨ad182, e182, hx182_0⟩ := Kd.at_int (Kd.R_reads' HO_8.out).2.2 (rd ((rd_T53 l0 x130_4).f1) x143_5) p182 q182
                                                            obtain rfl : ad180 = ad182 := (by injection e182)
                                                            replace p182 := eq_true p182
                                                            replace q182 := eq_true q182
                                                            have p183 : 0 ≤ ((rd ((rd_T53 l0 x130_4).f1) x143_5) : Int) := of_decide_eq_true (by first | (with_reducible assumption) | assumption)
                                                            have q183 : (rd ((rd_T53 l0 x130_4).f1) x143_5) < (l0.length : Int) := of_decide_eq_true (by first | (with_reducible assumption) | assumption)
                                                            obtain ⟨ad183, A183_1, c183_1, e183, hx183_0, hx183_1, hl183_1, hi183_1⟩ := at_T53 HR0.out (rd ((rd_T53 l0 x130_4).f1) x143_5) p183 q183
                                                            obtain rfl : ad178 = ad183 := (by injection e183)
                                                            try replace hx183_0 := (HB.out.cell (World.block_lt_of_cell? w _ hx183_0)).trans hx183_0
                                                            try replace hx183_1 := (HB.out.cell (World.block_lt_of_cell? w _ hx183_1)).trans hx183_1
                                                            have HR183_1 := Aside0.mk hi183_1
                                                            have HC183_1 := Aside0.mk hl183_1
                                                            clear hi183_1 hl183_1
                                                            replace p183 := eq_true p183
                                                            replace q183 := eq_true q183
                                                            have p184 : 0 ≤ (x130_4 : Int) := of_decide_eq_true (by first | (with_reducible assumption) | assumption)
                                                            have q184 : x130_4 < (x8_3.length : Int) := of_decide_eq_true (by first | (with_reducible assumption) | assumption)
                                                            obtain ⟨ad184, e184, hx184_0⟩ := Kd.at_int (Kd.R_reads' HO_8.out).2.2 x130_4 p184 q184
                                                            obtain rfl : ad180 = ad184 := (by injection e184)
                                                            replace p184 := eq_true p184
                                                            replace q184 := eq_true q184
                                                            go_wp2
                                                            repeat (go_quiet (fail); try go_wp2)
                                                            go_ret2
                                                            exact ⟨by first | rfl | (simp [errW_none, errW_some] <;> rfl) | (simp [*, errW_none, errW_some] <;> rfl), by repeat (first | (with_reducible first | exact HB.out | apply below_alloc | apply pw_below_drewN | apply below_drew1 | refine below_set ?_ GE179.out) | exact HB.out)⟩
                                                          · rw [if_neg c95] at H
                                                            have c95b0 : decide ((rd x8_3 x130_4) < (wrap64 ((rd x8_3 (rd ((rd_T53 l0 x130_4).f1) x143_5)) + ((rd_T53 l0 (rd ((rd_T53 l0 x130_4).f1) x143_5)).f0)))) = false := decide_eq_false c95
                                                            clear c95
                                                            have H' := Aside0.mk H
                                                            clear H
                                                            have p181 : 0 ≤ (x143_5 : Int) := of_decide_eq_true (by first | (with_reducible assumption) | assumption)
                                                            have q181 : x143_5 < (((rd_T53 l0 x130_4).f1).length : Int) := of_decide_eq_true (by first | (with_reducible assumption) | assumption)
                                                            obtain ⟨ad181, e181, hx181_0⟩ := Kd.at_int HR178_1.out x143_5 p181 q181
                                                            cases e181
                                                            try replace hx181_0 := (HB.out.cell (World.block_lt_of_cell? w _ hx181_0)).trans hx181_0
                                                            replace p181 := eq_true p181
                                                            replace q181 := eq_true q181
                                                            have p182 : 0 ≤ ((rd ((rd_T53 l0 x130_4).f1) x143_5) : Int) := of_decide_eq_true (by first | (with_reducible assumption) | assumption)
                                                            have q182 : (rd ((rd_T53 l0 x130_4).f1) x143_5) < (x8_3.length : Int) := of_decide_eq_true (by first | (with_reducible assumption) | assumption)
                                                            obtain ⟨ad182, e182, hx182_0⟩ := Kd.at_int (Kd.R_reads' HO_8.out).2.2 (rd ((rd_T53 l0 x130_4).f1) x143_5) p182 q182
                                                            obtain rfl : ad180 = ad182 := (by injection e182)
                                                            replace p182 := eq_true p182
                                                            replace q182 := eq_true q182
                                                            have p183 : 0 ≤ ((rd ((rd_T53 l0 x130_4).f1) x143_5) : Int) := of_decide_eq_true (by first | (with_reducible assumption) | assumption)
                                                            have q183 : (rd ((rd_T53 l0 x130_4).f1) x143_5) < (l0.length : Int) := of_decide_eq_true (by first | (with_reducible assumption) | assumption)
                                                            obtain ⟨ad183, A183_1, c183_1, e183, hx183_0, hx183_1, hl183_1, hi183_1⟩ := at_T53 HR0.out (rd ((rd_T53 l0 x130_4).f1) x143_5) p183 q183
                                                            obtain rfl : ad178 = ad183 := (by injection e183)
                                                            try replace hx183_0 := (HB.out.cell (World.block_lt_of_cell? w _ hx183_0)).trans hx183_0
                                                            try replace hx183_1 := (HB.out.cell (World.block_lt_of_cell? w _ hx183_1)).trans hx183_1
                                                            have HR183_1 := Aside0.mk hi183_1
                                                            have HC183_1 := Aside0.mk hl183_1
                                                            clear hi183_1 hl183_1
                                                            replace p183 := eq_true p183
                                                            replace q183 := eq_true q183
                                                            have p184 : 0 ≤ (x130_4 : Int) := of_decide_eq_true (by first | (with_reducible assumption) | assumption)
                                                            have q184 : x130_4 < (x8_3.length : Int) := of_decide_eq_true (by first | (with_reducible assumption) | assumption)
                                                            obtain ⟨ad184, e184, hx184_0⟩ := Kd.at_int (Kd.R_reads' HO_8.out).2.2 x130_4 p184 q184
                                                            obtain rfl : ad180 = ad184 := (by injection e184)
                                                            replace p184 := eq_true p184
                                                            replace q184 := eq_true q184
                                                            go_wp2
                                                            repeat (go_quiet (fail); try go_wp2)
                                                            go_roundg k5
                                                            case measure => have := HJ3.out; have := HK2.out; have := HK3.out; have := HK4.out; have := HK5.out; omega
                                                            case rel => exact ⟨(wrap64 (x143_5 + 1)), (by first | rfl | (simp; done) | (simp [*]; done)), H', ⟨by have := HJ3.out; have := HK2.out; have := HK3.out; have := HK4.out; have := HK5.out; omega⟩, ⟨by (try simp only [hl8_2]); (try simp only [hl8_3]); (with_reducible repeat (first | apply Kd.R_alloc | apply Kd.R_drewN | apply Kd.R_drew)); exact HO_8.out⟩, ⟨by (try simp only [hl8_2]); (try simp only [hl8_3]); (with_reducible repeat (first | refine blk_drewN ?_ _ | refine blk_drew ?_ | refine blk_alloc ?_ _)); exact BK179.out⟩, ⟨by repeat (first | (with_reducible first | exact HB.out | apply below_alloc | apply pw_below_drewN | apply below_drew1 | refine below_set ?_ GE179.out) | exact HB.out)⟩⟩
                                                        · rw [if_neg c94] at H
                                                          exact absurd H (by simp)
                                                      · rw [if_neg c93] at H
                                                        exact absurd H (by simp)
                                                    · rw [if_neg c92] at H
                                                      exact absurd H (by simp)
                                                  · rw [if_neg c91] at H
                                                    exact absurd H (by simp)
                                                · rw [if_neg c90] at H
                                                  exact absurd H (by simp)
                                              · rw [if_neg c89] at H
                                                exact absurd H (by simp)
                                            · rw [if_neg c88] at H
                                              exact absurd H (by simp)
                                          · rw [if_neg c87] at H
                                            have c87b0 : decide (x143_5 < (((rd_T53 l0 x130_4).f1).length : Int)) = false := decide_eq_false c87
                                            clear c87
                                            have H' := Aside0.mk H
                                            clear H
                                            go_wp2
                                            repeat (go_quiet (fail); try go_wp2)
                                            go_roundg k5
                                            case measure => have := HJ3.out; have := HK2.out; have := HK3.out; have := HK4.out; have := HK5.out; omega
                                            case rel => exact ⟨(wrap64 (x130_4 + 1)), (by first | rfl | (simp; done) | (simp [*]; done)), H', ⟨by have := HJ3.out; have := HK2.out; have := HK3.out; have := HK4.out; have := HK5.out; omega⟩, ⟨by (try simp only [hl8_2]); (try simp only [hl8_3]); (with_reducible repeat (first | apply Kd.R_alloc | apply Kd.R_drewN | apply Kd.R_drew)); exact HO_8.out⟩, ⟨by repeat (first | (with_reducible first | exact HB.out | apply below_alloc | apply pw_below_drewN | apply below_drew1 | refine below_set ?_ GE179.out) | exact HB.out)⟩⟩
                                  · rw [if_neg c81] at H
                                    exact absurd H (by simp)
                                · rw [if_neg c80] at H
                                  exact absurd H (by simp)
                              · rw [if_neg c79] at H
                                exact absurd H (by simp)
                            · rw [if_neg c78] at H
                              have c78b0 : decide (x130_4 < (l0.length : Int)) = false := decide_eq_false c78
                              try (have c78b0q := c78b0; rw [hl8_3] at c78b0q)
                              clear c78
                              simp only [Option.some.injEq, Prod.mk.injEq] at H
                              obtain ⟨rfl, rfl⟩ := H
                              go_wp2
                              repeat (go_quiet (fail); try go_wp2)
                              go_ret2
                              exact ⟨by first | rfl | (simp [errW_none, errW_some] <;> rfl) | (simp [*, errW_none, errW_some] <;> rfl), by repeat (first | (with_reducible first | exact HB.out | apply below_alloc | apply pw_below_drewN | apply below_drew1) | exact HB.out)⟩
          · rw [if_neg c14] at H
            exact absurd H (by simp)
        · rw [if_neg c13] at H
          exact absurd H (by simp)

end Go.Proofs.Ytpgegjbnnbkhiaa.PFnExactIsSchedule
