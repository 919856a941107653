-- written by xprint.py (a program of this session's, over the kit's print): printed functions, and some by hand
import Derived.Test.YtnfafdlglhbijaaPFnExactCanFirex0
import Derived.Test.YtnfafdlglhbijaaPFnExactCanFirex4
namespace Go.Proofs.Ytnfafdlglhbijaa.PFnExactCanFire
open Go.RowKit Go.Proofs.YtnfafdlglhbijaaW.PrintWords Go.Proofs.YtnfafdlglhbijaaW.PrintLast Go.Proofs.YtnfafdlglhbijaaW.PrintMore
attribute [local go_sem] max2_int min2_int max_two min_two max_three min_three max_four min_four   -- for this text's walks alone
set_option linter.unusedVariables false
set_option linter.unusedSimpArgs false

/-! ### impl_Net_fired: function 59, by hand; a text alone -/
/-- d to the places that a list names -/
def addAll (d : Int) : List Int → List Int → Option (List Int)
  | [], x => some x
  | p :: l, x => if 0 ≤ p ∧ p < x.length then addAll d l (x.set p.toNat (wrap64 (rd x p + d))) else none
theorem addAll_drop (d : Int) (l : List Int) (j : Nat) (h : j < l.length) (x : List Int) : addAll d (l.drop j) x = if 0 ≤ rd l j ∧ rd l j < x.length then addAll d (l.drop (j + 1)) (x.set (rd l j).toNat (wrap64 (rd x (rd l j) + d))) else none := by
  rw [List.drop_eq_getElem_cons h]
  simp only [addAll, rd, Int.toNat_natCast, List.getD_eq_getElem?_getD, List.getElem?_eq_getElem h, Option.getD_some]
def net_fired.f (a0 : Int) (st : List S60) (m : List Int) (step : Int) : Option (List Int × Bool) :=
  if 0 ≤ step ∧ step < st.length ∧ m.length < 17592186044416 then
    ((addAll (-1) (rd_T60 st step).f0 m).bind fun x => (slices_Min_int_int.f x).bind fun q => if q < 0 then some ([], false) else (addAll 1 (rd_T60 st step).f1 x).bind fun y => (impl_isMarking.f y a0).bind fun b => some (y, b))
  else none
set_option maxHeartbeats 8000000 in
set_option maxRecDepth 100000 in
theorem net_fired.calls (gb : Nat) (A : Option Addr) (cc : Nat) (a0 : Int) (st : List S60) (A1 : Option Addr) (c1 : Nat) (m : List Int) (step : Int) (r1 : List Int) (r2 : Bool) (w : World) (hbk : w.heap[gb]? = some (.cells #[.int .i64 a0, .slice A st.length cc] 29 (0, 0))) (hst : Kd.C k60 w A st.length st) (hm : Kd.C (Kd.int .i64) w A1 m.length m) (hc1 : m.length ≤ c1) (h : net_fired.f a0 st m step = some (r1, r2)) :
    Calls Try.prog 59 #[.pointer (some ⟨gb, 0, none⟩), .slice A1 m.length c1, .int .i64 step] w fun e w' => ∃ v0_ : Value, e = .returned (.tuple #[v0_, .bool r2]) ∧ Kd.R (Kd.int .i64) 3 w' w.heap.size (fun _ => True) v0_ r1 ∧ Below w.heap.size w w' := by
  have hu29 := Try.underlying29
  have hu60 := Try.underlying60
  unfold net_fired.f at h
  by_cases hs : 0 ≤ step ∧ step < st.length ∧ m.length < 17592186044416
  · rw [if_pos hs] at h
    obtain ⟨hs0, hs1, hml⟩ := hs
    have hcl : slices_Clone_int_int.f m = some m := by unfold slices_Clone_int_int.f; rw [if_pos hml]
    have H := Aside0.mk h
    obtain ⟨ad, B0, d0, B1, d1, rfl, hx0, hx1, hd0, hi0, hd1, hi1⟩ := at_T60 hst step hs0 hs1
    have hz0 : w.cell? ⟨gb, 0, none⟩ = some (.int .i64 a0) := (blk_cell hbk 0).trans rfl
    have hz1 : w.cell? ⟨gb, 1, none⟩ = some (.slice (some ad) st.length cc) := (blk_cell hbk 1).trans rfl
    have HR0 := Aside0.mk hi0
    have HR1 := Aside0.mk hi1
    have BK := Aside0.mk hbk
    have HB := Aside0.mk (Below.refl w.heap.size w)
    obtain ⟨s, hs⟩ : ∃ s, s = rd_T60 st step := ⟨_, rfl⟩
    have HS := Aside0.mk hs
    have lz0 := World.block_lt_of_cell? w _ hz0
    have lz1 := World.block_lt_of_cell? w _ hz1
    have lx0 := World.block_lt_of_cell? w _ hx0
    have lx1 := World.block_lt_of_cell? w _ hx1
    have HC := Aside0.mk (show ∀ W, Below w.heap.size w W → Calls Try.prog 63 #[.slice A1 m.length c1] W fun e w' => ∃ v0_ : Value, e = .returned (v0_) ∧ Kd.R (Kd.int .i64) 3 w' w.heap.size (fun _ => True) v0_ m ∧ Below W.heap.size W w' ∧ Below w.heap.size w w' ∧ w'.cell? ⟨gb, 1, none⟩ = some (.slice (some ad) st.length cc) ∧ w'.cell? (ad.add (step.toNat * 2)) = some (.slice B0 (rd_T60 st step).f0.length d0) ∧ w'.cell? ⟨(ad.add (step.toNat * 2)).block, (ad.add (step.toNat * 2)).off + 1, none⟩ = some (.slice B1 (rd_T60 st step).f1.length d1) ∧ (W.heap[w.heap.size]? = some (.cells #[.slice none 0 0, .slice none 0 0] 60 (0, 0)) → w'.heap[w.heap.size]? = some (.cells #[.slice none 0 0, .slice none 0 0] 60 (0, 0))) from fun W hb => by
      refine (slices_Clone_int_int.calls A1 c1 m m W (Kd.C_below hm hb) hc1 hcl).mono ?_
      rintro e w' ⟨v0, rfl, hr, hb1⟩
      have hb2 := below_then hb hb.size hb1
      exact ⟨v0, rfl, Kd.R_lower hr hb.size, hb1, hb2, (hb2.cell lz1).trans hz1, (hb2.cell lx0).trans hx0, (hb2.cell lx1).trans hx1, fun h => blk_below h hb1⟩)
    have nz1 := World.new_ne w _ hz1
    have nx0 := World.new_ne w _ hx0
    have nx1 := World.new_ne w _ hx1
    clear h hm hc1 hcl hst hbk hi0 hi1 hml hd0 hd1
    go_enter Try.func59, Try.ntmps59
    go_wp2_with fail
    go_cut [8, 9] from 14 to 22 (fun v8 v9 wx => ∃ gb9 : Nat, v9 = .pointer (some ⟨gb9, 0, none⟩) ∧ Aside0 (wx.heap[gb9]? = some (.cells #[.slice B0 (rd_T60 st step).f0.length d0, .slice B1 (rd_T60 st step).f1.length d1] 60 (0, 0))) ∧ Aside0 (Kd.R (Kd.int .i64) 3 wx w.heap.size (fun _ => True) v8 m) ∧ Aside0 (Below w.heap.size w wx))
    case first =>
      go_region_held3 (fun w' => w'.cell? ⟨gb, 1, none⟩ = some (.slice (some ad) st.length cc) ∧ w'.cell? (ad.add (step.toNat * 2)) = some (.slice B0 (rd_T60 st step).f0.length d0) ∧ w'.cell? ⟨(ad.add (step.toNat * 2)).block, (ad.add (step.toNat * 2)).off + 1, none⟩ = some (.slice B1 (rd_T60 st step).f1.length d1)) (first | exact ⟨hz1, hx0, hx1⟩ | exact ⟨hz1', hx0', hx1'⟩ | go_keep) ((go_at_call 63; refine (HC.out _ ?hb).mono ?_; (case hb => (repeat (first | exact HB.out | apply below_alloc | apply pw_below_drewN | apply below_drew1))); rintro e w1 ⟨v0, rfl, hr1, hb1, hb2, hz1', hx0', hx1', hn⟩; (try (replace hn := hn (heap_alloc_new w (.cells #[.slice none 0 0, .slice none 0 0] 60 (0, 0))); have hn0 : w1.cell? ⟨w.heap.size, 0, none⟩ = some (.slice none 0 0) := (blk_cell hn 0).trans rfl; have hn1 : w1.cell? ⟨w.heap.size, 1, none⟩ = some (.slice none 0 0) := (blk_cell hn 1).trans rfl; have hf0 := blk_frozen hn 0; have hf1 := blk_frozen hn 1))))
      · go_wp2_with fail
        go_meet
        exact ⟨w1.heap.size, rfl, ⟨blk_new _ _⟩, ⟨Kd.R_alloc hr1 _⟩, ⟨below_alloc hb2 _⟩⟩
      · go_wp2_with fail
        go_meet
        have hn' := blk_put hn 0 (.slice B0 (rd_T60 st step).f0.length d0) (cs' := #[.slice B0 (rd_T60 st step).f0.length d0, .slice none 0 0]) rfl
        exact ⟨w.heap.size, rfl, ⟨blk_put hn' 1 _ rfl⟩, ⟨Kd.R_set (Kd.R_set hr1 hn (fun q hq => by cases hq with | head => decide | tail _ h => exact nomatch (show q ∈ ([] : List TypeId) from h)) 0 _) hn' (fun q hq => by cases hq with | head => decide | tail _ h => exact nomatch (show q ∈ ([] : List TypeId) from h)) 1 _⟩, ⟨below_set (below_set hb2 (Nat.le_refl _)) (Nat.le_refl _)⟩⟩
    case rest =>
      obtain ⟨gb9, rfl, BK9, HO, HB⟩ := hcut
      clear HC hx0 hx1 hz1 nz1 nx0 nx1 lx0 lx1 lz1
      obtain ⟨x1, A1x, H⟩ := Option.bind_eq_some_iff.1 H.out
      have AX := Aside0.mk A1x
      have H := Aside0.mk H
      clear A1x
      have c90 := (blk_cell BK9.out 0)
      have c91 := (blk_cell BK9.out 1)
      have f90 := blk_frozen BK9.out 0
      have f91 := blk_frozen BK9.out 1
      simp at c90 c91
      go_wp2_with fail

      go_loopg [26] (rd_T60 st step).f0.length (fun kq v26 w' => ∃ (x : List Int) (j : Nat), v26 = .int .i64 (j : Int) ∧ Aside0 (kq + j = (rd_T60 st step).f0.length) ∧ Aside0 (addAll (-1) ((rd_T60 st step).f0.drop j) x = some x1) ∧ Aside0 (Kd.R (Kd.int .i64) 3 w' w.heap.size (fun _ => True) u8 x) ∧ Aside0 (w'.heap[gb9]? = some (.cells #[.slice B0 (rd_T60 st step).f0.length d0, .slice B1 (rd_T60 st step).f1.length d1] 60 (0, 0))) ∧ Aside0 (Below w.heap.size w w'))
      case atStart => exact ⟨_, 0, rfl, ⟨by omega⟩, ⟨by simpa using AX.out⟩, HO, ⟨by (with_reducible repeat (first | refine blk_drewN ?_ _ | refine blk_drew ?_ | refine blk_alloc ?_ _)); exact BK9.out⟩, ⟨by repeat (first | exact HB.out | apply below_alloc | apply pw_below_drewN | apply below_drew1)⟩⟩
      case round =>
        clear HO BK9 HB
        obtain ⟨x, j, rfl, HK, HA, HO, BK9, HB⟩ := hrel
        by_cases hlt : j < (rd_T60 st step).f0.length
        · obtain ⟨adk, ek, hxk⟩ := Kd.at_int (Kd.C_below HR0.out HB.out) (j : Int) (by omega) (by omega)
          cases ek
          have hA := HA.out
          rw [addAll_drop _ _ _ hlt] at hA
          by_cases hp : 0 ≤ rd (rd_T60 st step).f0 j ∧ rd (rd_T60 st step).f0 j < x.length
          · rw [if_pos hp] at hA
            obtain ⟨p, hpp⟩ : ∃ p, p = rd (rd_T60 st step).f0 j := ⟨_, rfl⟩
            rw [← hpp] at hxk hA hp
            rw [Int.toNat_natCast] at hxk
            obtain ⟨y, hy⟩ : ∃ y, y = x.set p.toNat (wrap64 (rd x p + (-1))) := ⟨_, rfl⟩
            rw [← hy] at hA
            have HY := Aside0.mk hy
            have HA2 := Aside0.mk hA
            clear hy hA HA hpp
            obtain ⟨p16, q16⟩ := hp
            obtain ⟨go16, co16, eo16, gb16, gl16, cl16, HG16⟩ := Kd.R_form HO.out (by omega)
            subst eo16
            obtain ⟨adp, ep, hxp⟩ := Kd.at_int (Kd.R_reads' HO.out).2.2 p p16 q16
            cases ep
            (first | simp only [add_plain] at hxp | skip)
            obtain ⟨hx16_0, hf16_0⟩ := Kd.R_celln 0 HO.out p p16 q16
            have GB16 := Aside0.mk gb16
            clear gb16 gl16 HG16
            have HP18 := Kd.R_putg HO.out p (wrap64 (rd x p + (-1)))
            rw [← HY.out] at HP18
            replace p16 := eq_true p16
            replace q16 := eq_true q16
            cases gk with
            | zero => exact absurd HK.out (by omega)
            | succ k1 =>
              go_wp2_with (first | ((with_reducible refine gate_store (t := 3) (p := 35) rfl ?_); refine store_event (t := 3) (p := 35) (v := ?vo_w19) (w1 := (wr.setCell ⟨go16, (p : Int).toNat, none⟩ (.int .i64 (wrap64 ((rd x p) - 1))))) ?hg ?ho ?hn ?hr ?_; (case ho => rfl); (case hg => rfl); (case hn => rfl); (case hr => first | (go_simp; done) | (go_simp; rfl)); intro w19 hw; have n0_ : Aside0 (Kd.R (Kd.int .i64) 3 w19 w.heap.size (fun _ => True) (.slice (some ⟨go16, 0, none⟩) x.length co16) y) := ⟨by rw [hw]; exact HP18.1⟩; have n1_ := Aside0.mk (blk_grown (g := gb9) (o := .cells #[.slice _ (rd_T60 st step).f0.length d0, .slice _ (rd_T60 st step).f1.length d1] 60 (0, 0)) BK9.out (show wr.grownBy w19 (some go16) by rw [hw]; exact HP18.2) (Kd.R_ne HO.out BK9.out (by decide))); have n2_ := Aside0.mk ((by rw [hw]; exact below_set (HB.out) GB16.out : Below w.heap.size w w19)); clear HO; clear BK9; clear HB; have HO := n0_; have BK9 := n1_; have HB := n2_; clear n0_ n1_ n2_; clear hw; clear HP18))
              go_roundg k1
              case measure => omega
              case rel => exact ⟨y, j + 1, by (have hlen := HR0.out.2.1; congr 1; unfold wrap64; omega), ⟨by have := HK.out; omega⟩, HA2, HO, BK9, HB⟩
          · rw [if_neg hp] at hA; cases hA
        · have hge : ¬ ((j : Int) < (rd_T60 st step).f0.length) := by omega
          have ex : x = x1 := by
            have hA := HA.out
            rw [List.drop_of_length_le (by omega)] at hA
            exact Option.some.inj hA
          subst ex
          clear HA HK
          obtain ⟨q, Q1, H⟩ := Option.bind_eq_some_iff.1 H.out
          have MQ := Aside0.mk Q1
          clear Q1
          obtain ⟨Ao, co, eo⟩ := Kd.R_slice HO.out
          subst eo
          have MC := Aside0.mk (fun W (hb : Below wr.heap.size wr W) => slices_Min_int_int.calls Ao co x q W (Kd.C_below (Kd.R_reads' HO.out).2.2 hb) (Kd.R_reads' HO.out).2.1 MQ.out)
          have WB := Aside0.mk (Below.refl wr.heap.size wr)
          have c90 := (blk_cell BK9.out 0)
          have c91 := (blk_cell BK9.out 1)
          have f90 := blk_frozen BK9.out 0
          have f91 := blk_frozen BK9.out 1
          simp at c90 c91
          by_cases hq : q < 0
          · have hqd : decide (q < 0) = true := decide_eq_true hq
            rw [if_pos hq] at H
            simp only [Option.some.injEq, Prod.mk.injEq] at H
            obtain ⟨rfl, rfl⟩ := H
            go_wp2_with fail
            refine (MC.out _ ?hb).mono ?_
            case hb => repeat (first | exact WB.out | apply below_alloc | apply pw_below_drewN | apply below_drew1)
            rintro e w2 ⟨rfl, ⟨nd, rfl⟩⟩
            go_wp2
            go_ret2
            exact ⟨_, rfl, Kd.R_nil _ _ _ _ _, by repeat (first | exact HB.out | apply below_alloc | apply pw_below_drewN | apply below_drew1)⟩
          · have hqd : decide (q < 0) = false := decide_eq_false hq
            rw [if_neg hq] at H
            obtain ⟨y2, Y2, H⟩ := Option.bind_eq_some_iff.1 H
            have AY := Aside0.mk Y2
            have H := Aside0.mk H
            clear Y2 hq
            go_wp2_with fail
            refine (MC.out _ ?hb).mono ?_
            case hb => repeat (first | exact WB.out | apply below_alloc | apply pw_below_drewN | apply below_drew1)
            rintro e w2 ⟨rfl, ⟨nd, rfl⟩⟩
            replace HO := Aside0.mk (Kd.R_drewN HO.out nd)
            replace BK9 := Aside0.mk (blk_drewN BK9.out nd)
            replace HB := Aside0.mk (pw_below_drewN HB.out nd)
            obtain ⟨xl, hxl⟩ : ∃ xl, xl = x.length := ⟨_, rfl⟩
            rw [← hxl] at HO
            rw [← hxl]
            clear hxl MC WB
            go_wp2_with fail
            go_loopg [43] (rd_T60 st step).f1.length (fun kq v43 w' => ∃ (x : List Int) (j : Nat), v43 = .int .i64 (j : Int) ∧ Aside0 (kq + j = (rd_T60 st step).f1.length) ∧ Aside0 (addAll (1) ((rd_T60 st step).f1.drop j) x = some y2) ∧ Aside0 (Kd.R (Kd.int .i64) 3 w' w.heap.size (fun _ => True) (.slice Ao xl co) x) ∧ Aside0 (w'.heap[gb9]? = some (.cells #[.slice B0 (rd_T60 st step).f0.length d0, .slice B1 (rd_T60 st step).f1.length d1] 60 (0, 0))) ∧ Aside0 (Below w.heap.size w w'))
            case atStart => exact ⟨_, 0, rfl, ⟨by omega⟩, ⟨by simpa using AY.out⟩, HO, BK9, HB⟩
            case round =>
              clear HO BK9 HB AY
              obtain ⟨x, j, rfl, HK, HA, HO, BK9, HB⟩ := hrel
              have exl : xl = x.length := (Kd.R_reads' HO.out).1
              by_cases hlt : j < (rd_T60 st step).f1.length
              · obtain ⟨adk, ek, hxk⟩ := Kd.at_int (Kd.C_below HR1.out HB.out) (j : Int) (by omega) (by omega)
                cases ek
                have hA := HA.out
                rw [addAll_drop _ _ _ hlt] at hA
                by_cases hp : 0 ≤ rd (rd_T60 st step).f1 j ∧ rd (rd_T60 st step).f1 j < x.length
                · rw [if_pos hp] at hA
                  obtain ⟨p, hpp⟩ : ∃ p, p = rd (rd_T60 st step).f1 j := ⟨_, rfl⟩
                  rw [← hpp] at hxk hA hp
                  rw [Int.toNat_natCast] at hxk
                  obtain ⟨y, hy⟩ : ∃ y, y = x.set p.toNat (wrap64 (rd x p + 1)) := ⟨_, rfl⟩
                  rw [← hy] at hA
                  have HY := Aside0.mk hy
                  have HA2 := Aside0.mk hA
                  clear hy hA HA hpp
                  obtain ⟨p16, q16⟩ := hp
                  subst exl
                  obtain ⟨go16, co16, eo16, gb16, gl16, cl16, HG16⟩ := Kd.R_form HO.out (by omega)
                  injection eo16 with ea_ en_ ec_
                  subst ea_
                  subst ec_
                  clear en_
                  obtain ⟨adp, ep, hxp⟩ := Kd.at_int (Kd.R_reads' HO.out).2.2 p p16 q16
                  cases ep
                  (first | simp only [add_plain] at hxp | skip)
                  obtain ⟨hx16_0, hf16_0⟩ := Kd.R_celln 0 HO.out p p16 q16
                  have GB16 := Aside0.mk gb16
                  clear gb16 gl16 HG16
                  have HP18 := Kd.R_putg HO.out p (wrap64 (rd x p + 1))
                  rw [← HY.out] at HP18
                  replace p16 := eq_true p16
                  replace q16 := eq_true q16
                  cases gk with
                  | zero => exact absurd HK.out (by omega)
                  | succ k1 =>
                    go_wp2
                    go_roundg k1
                    case measure => omega
                    case rel => exact ⟨y, j + 1, by (have hlen := HR1.out.2.1; congr 1; unfold wrap64; omega), ⟨by have := HK.out; omega⟩, HA2, ⟨HP18.1⟩, ⟨blk_grown BK9.out HP18.2 (Kd.R_ne HO.out BK9.out (by decide))⟩, ⟨below_set HB.out GB16.out⟩⟩
                · rw [if_neg hp] at hA; cases hA
              · have hge : ¬ ((j : Int) < (rd_T60 st step).f1.length) := by omega
                have ex : x = y2 := by
                  have hA := HA.out
                  rw [List.drop_of_length_le (by omega)] at hA
                  exact Option.some.inj hA
                subst ex
                subst exl
                clear HA HK
                obtain ⟨b, B1, H⟩ := Option.bind_eq_some_iff.1 H.out
                simp only [Option.some.injEq, Prod.mk.injEq] at H
                obtain ⟨rfl, rfl⟩ := H
                have MI := Aside0.mk (fun W (hb : Below wr.heap.size wr W) => impl_isMarking.calls Ao co x a0 b W (Kd.C_below (Kd.R_reads' HO.out).2.2 hb) (Kd.R_reads' HO.out).2.1 B1)
                have hz0' := (HB.out.cell lz0).trans hz0
                have WB := Aside0.mk (Below.refl wr.heap.size wr)
                clear B1
                go_wp2_with fail
                refine (MI.out _ ?hb).mono ?_
                case hb => repeat (first | exact WB.out | apply below_alloc | apply pw_below_drewN | apply below_drew1)
                rintro e w2 ⟨rfl, hb2⟩
                have HB2 := Aside0.mk (below_then HB.out HB.out.size hb2)
                have HO2 := Aside0.mk (Kd.R_below HO.out hb2)
                clear hb2
                go_wp2
                go_ret2
                exact ⟨_, rfl, HO2.out, HB2.out⟩
  · rw [if_neg hs] at h; cases h

/-! ### impl_CanFire: function 25, by hand -/
def impl_CanFire.f (k : Nat) (a0_0 : Int) (l0_1 : List (S60)) (l1 : List Int) (a2 : Int) : Option (Bool × Bool) := (impl_stepOk.f k a0_0 l0_1 l1 a2).bind fun t => if t = true then ((net_fired.f a0_0 l0_1 l1 a2).bind fun r => some (r.2, true)) else some (false, false)
theorem impl_CanFire.mono : ∀ a0 a1 a2 a3 k, LeO (impl_CanFire.f k a0 a1 a2 a3) (impl_CanFire.f (k + 1) a0 a1 a2 a3) := by
  intro a0 a1 a2 a3 k
  unfold impl_CanFire.f
  exact LeO.bind (impl_stepOk.mono _ _ _ _ _) (fun _ => LeO.refl _)
set_option maxHeartbeats 8000000 in
set_option maxRecDepth 100000 in
theorem impl_CanFire.calls (k : Nat) (a0_0 : Int) (A0_1 : Option Addr) (c0_1 : Nat) (l0_1 : List (S60)) (A1 : Option Addr) (c1 : Nat) (l1 : List Int) (a2 : Int) (r1 : Bool) (r2 : Bool) (w : World) (hr0_1 : Kd.C k60 w A0_1 l0_1.length l0_1) (hc0_1 : l0_1.length ≤ c0_1) (hr1 : Kd.C (Kd.int .i64) w A1 l1.length l1) (hc1 : l1.length ≤ c1) (h : impl_CanFire.f k a0_0 l0_1 l1 a2 = some (r1, r2)) :
    Calls Try.prog 25 #[.agg #[.int .i64 a0_0, .slice A0_1 l0_1.length c0_1], .slice A1 l1.length c1, .int .i64 a2] w fun e w' => e = .returned (.tuple #[.bool r1, .bool r2]) ∧ Below w.heap.size w w' := by
  have hu29 := Try.underlying29
  have HR0_1 := Aside0.mk hr0_1
  have HC0_1 := Aside0.mk hc0_1
  have HR1 := Aside0.mk hr1
  have HC1 := Aside0.mk hc1
  clear hr0_1 hc0_1 hr1 hc1
  have HB := Aside0.mk (Below.refl w.heap.size w)
  unfold impl_CanFire.f at h
  obtain ⟨t, T, h⟩ := Option.bind_eq_some_iff.1 h
  have HT := Aside0.mk T
  clear T
  cases t with
  | false =>
    rw [if_neg (by decide)] at h
    simp only [Option.some.injEq, Prod.mk.injEq] at h
    obtain ⟨rfl, rfl⟩ := h
    go_enter Try.func25, Try.ntmps25
    go_wp2_with (first | ((with_reducible refine gate_dst (N := 3) rfl ?_); refine box_event ?hg (N := 3) ?hd (cs := #[.int .i64 a0_0, .slice A0_1 l0_1.length c0_1]) (t := 29) ?hr ?_; (case hd => rfl); (case hg => rfl); (case hr => first | (go_simp; done) | (go_simp; rfl)); intro gb hg w3 hbox hb; have n0_ := Aside0.mk (below_step (by repeat (first | exact HB.out | apply below_alloc | apply pw_below_drewN | apply below_drew1)) hb); have n1_ := Aside0.mk hbox; clear HB; have HB := n0_; have BK := n1_; clear n0_ n1_; clear hb hbox hg; have hcz_0 : w3.cell? ⟨gb, 0, none⟩ = some (.int .i64 a0_0) := (blk_cell BK.out 0).trans rfl; have hcz_1 : w3.cell? ⟨gb, 1, none⟩ = some (.slice A0_1 l0_1.length c0_1) := (blk_cell BK.out 1).trans rfl; have hfz_0 := blk_frozen BK.out 0; have hfz_1 := blk_frozen BK.out 1))
    refine (impl_stepOk.calls k a0_0 A0_1 c0_1 l0_1 A1 c1 l1 a2 false _ (Kd.C_below HR0_1.out HB.out) HC0_1.out (Kd.C_below HR1.out HB.out) HC1.out HT.out).mono ?_
    rintro e w4 ⟨rfl, hb4⟩
    have HB4 := Aside0.mk (below_then HB.out HB.out.size hb4)
    clear hb4 hcz_0 hcz_1 hfz_0 hfz_1
    go_wp2
    go_ret2
    exact ⟨rfl, HB4.out⟩
  | true =>
    rw [if_pos rfl] at h
    obtain ⟨⟨q1, q2⟩, Q, h⟩ := Option.bind_eq_some_iff.1 h
    have HQ := Aside0.mk Q
    clear Q
    simp only at h
    simp only [Option.some.injEq, Prod.mk.injEq] at h
    obtain ⟨rfl, rfl⟩ := h
    go_enter Try.func25, Try.ntmps25
    go_wp2_with (first | ((with_reducible refine gate_dst (N := 3) rfl ?_); refine box_event ?hg (N := 3) ?hd (cs := #[.int .i64 a0_0, .slice A0_1 l0_1.length c0_1]) (t := 29) ?hr ?_; (case hd => rfl); (case hg => rfl); (case hr => first | (go_simp; done) | (go_simp; rfl)); intro gb hg w3 hbox hb; have n0_ := Aside0.mk (below_step (by repeat (first | exact HB.out | apply below_alloc | apply pw_below_drewN | apply below_drew1)) hb); have n1_ := Aside0.mk hbox; clear HB; have HB := n0_; have BK := n1_; clear n0_ n1_; clear hb hbox hg; have hcz_0 : w3.cell? ⟨gb, 0, none⟩ = some (.int .i64 a0_0) := (blk_cell BK.out 0).trans rfl; have hcz_1 : w3.cell? ⟨gb, 1, none⟩ = some (.slice A0_1 l0_1.length c0_1) := (blk_cell BK.out 1).trans rfl; have hfz_0 := blk_frozen BK.out 0; have hfz_1 := blk_frozen BK.out 1))
    refine (impl_stepOk.calls k a0_0 A0_1 c0_1 l0_1 A1 c1 l1 a2 true _ (Kd.C_below HR0_1.out HB.out) HC0_1.out (Kd.C_below HR1.out HB.out) HC1.out HT.out).mono ?_
    rintro e w4 ⟨rfl, hb4⟩
    have HB4 := Aside0.mk (below_then HB.out HB.out.size hb4)
    have BK4 := Aside0.mk (blk_below BK.out hb4)
    clear hb4 hcz_0 hcz_1 hfz_0 hfz_1 HB BK
    go_wp2_with fail
    refine (net_fired.calls gb A0_1 c0_1 a0_0 l0_1 A1 c1 l1 a2 q1 q2 _ ?hbk ?hst ?hm HC1.out HQ.out).mono ?_
    case hbk => exact BK4.out
    case hst => exact Kd.C_below HR0_1.out HB4.out
    case hm => exact Kd.C_below HR1.out HB4.out
    rintro e w5 ⟨v0, rfl, ho5, hb5⟩
    have HO5 := Aside0.mk (Kd.R_lower ho5 HB4.out.size)
    have HB5 := Aside0.mk (below_then HB4.out HB4.out.size hb5)
    clear hb5 ho5
    go_wp2
    go_ret2
    exact ⟨rfl, HB5.out⟩

end Go.Proofs.Ytnfafdlglhbijaa.PFnExactCanFire
