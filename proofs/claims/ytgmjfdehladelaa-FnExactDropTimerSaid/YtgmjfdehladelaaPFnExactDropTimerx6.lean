-- written by xprint.py (a program of this session's, over the kit's print): printed functions, and some by hand
import Derived.Test.YtgmjfdehladelaaPFnExactDropTimerx0
import Derived.Test.YtgmjfdehladelaaPFnExactDropTimerx4
import Derived.Test.YtgmjfdehladelaaPFnExactDropTimerx5
namespace Go.Proofs.Ytgmjfdehladelaa.PFnExactDropTimer
open Go.RowKit Go.Proofs.YtgmjfdehladelaaW.PrintWords Go.Proofs.YtgmjfdehladelaaW.PrintLast Go.Proofs.YtgmjfdehladelaaW.PrintMore
attribute [local go_sem] max2_int min2_int max_two min_two max_three min_three max_four min_four   -- for this text's walks alone
set_option linter.unusedVariables false
set_option linter.unusedSimpArgs false

/-! ### spec_DropTimer: function 22, by hand -/
/-- a row without the first timer of an Id -/
def rowDrop (id : Int) : List S45 → Option (List S45)
  | [] => none
  | t :: l => if t.f1 = id then some l else (rowDrop id l).map (t :: ·)
def rowsDrop (id : Int) : List (List S45) → Option (List (List S45))
  | [] => none
  | row :: L => match rowDrop id row with
    | some row' => some (row' :: L)
    | none => (rowsDrop id L).map (row :: ·)
theorem rowDrop_none (id : Int) : ∀ l : List S45, (∀ t ∈ l, t.f1 ≠ id) → rowDrop id l = none
  | [], _ => rfl
  | t :: l, h => by
    unfold rowDrop
    rw [if_neg (h t List.mem_cons_self), rowDrop_none id l (fun x hx => h x (List.mem_cons_of_mem _ hx))]
    rfl
theorem rowDrop_at (id : Int) : ∀ (l : List S45) (k : Nat) (hk : k < l.length), (∀ t ∈ l.take k, t.f1 ≠ id) → l[k].f1 = id → rowDrop id l = some (l.take k ++ l.drop (k + 1))
  | t :: l, 0, _, _, h => by
    unfold rowDrop
    rw [if_pos (by simpa using h)]
    rfl
  | t :: l, k + 1, hk, hn, h => by
    unfold rowDrop
    rw [if_neg (hn t (by simp)), rowDrop_at id l k (by simpa using hk) (fun x hx => hn x (by rw [List.take_succ_cons]; exact List.mem_cons_of_mem _ hx)) (by simpa using h)]
    rfl
theorem rowsDrop_none (id : Int) : ∀ L : List (List S45), (∀ row ∈ L, ∀ t ∈ row, t.f1 ≠ id) → rowsDrop id L = none
  | [], _ => rfl
  | row :: L, h => by
    unfold rowsDrop
    rw [rowDrop_none id row (h row List.mem_cons_self), rowsDrop_none id L (fun x hx => h x (List.mem_cons_of_mem _ hx))]
    rfl
theorem rowsDrop_at (id : Int) : ∀ (L : List (List S45)) (i : Nat) (hi : i < L.length) (row' : List S45), (∀ row ∈ L.take i, ∀ t ∈ row, t.f1 ≠ id) → rowDrop id L[i] = some row' → rowsDrop id L = some (L.set i row')
  | row :: L, 0, _, row', _, h => by
    unfold rowsDrop
    have h2 : rowDrop id row = some row' := by simpa using h
    rw [h2]
    rfl
  | row :: L, i + 1, hi, row', hn, h => by
    unfold rowsDrop
    rw [rowDrop_none id row (hn row (by simp)), rowsDrop_at id L i (by simpa using hi) row' (fun x hx => hn x (by rw [List.take_succ_cons]; exact List.mem_cons_of_mem _ hx)) (by simpa using h)]
    rfl
def dropIn (id x1 : Int) (L : List (List S45)) : Int × List (List S45) × Bool := match rowsDrop id L with
  | some y => (x1, y, true)
  | none => (0, [], false)
def spec_DropTimer.f (k : Nat) (a0_0 : Int) (l0_1 : List (List S45)) (a1 : Int) : Option (Int × List (List S45) × Bool) := (spec_GoodWheel.f k a0_0 l0_1).bind fun b => if b = true then ((spec_l5Own.f k a0_0 l0_1).bind fun x => if x.2.length < 4000000 ∧ (∀ row ∈ x.2, row.length < 4000000) then some (dropIn a1 x.1 x.2) else none) else some (0, [], false)
theorem spec_DropTimer.mono : ∀ a0 a1 a2 k, LeO (spec_DropTimer.f k a0 a1 a2) (spec_DropTimer.f (k + 1) a0 a1 a2) := fun a0 a1 a2 k => LeO.bind (spec_GoodWheel.mono a0 a1 k) (fun _ => LeO.ite (LeO.bind (spec_l5Own.mono a0 a1 k) (fun _ => LeO.refl _)) (LeO.refl _))
set_option maxHeartbeats 8000000 in
set_option maxRecDepth 100000 in
theorem spec_DropTimer.calls (k : Nat) (a0_0 : Int) (A0_1 : Option Addr) (c0_1 : Nat) (l0_1 : List (List S45)) (a1 : Int) (r1 : Int) (r2 : List (List S45)) (r3 : Bool) (w : World) (hr0_1 : Kd.C (Kd.slice 45 k45) w A0_1 l0_1.length l0_1) (hc0_1 : l0_1.length ≤ c0_1) (h : spec_DropTimer.f k a0_0 l0_1 a1 = some (r1, r2, r3)) :
    Calls Try.prog 22 #[.agg #[.int .i64 a0_0, .slice A0_1 l0_1.length c0_1], .int .i64 a1] w fun e w' => ∃ v1_ : Value, e = .returned (.tuple #[.agg #[.int .i64 r1, v1_], .bool r3]) ∧ Kd.S (Kd.slice 45 k45) 48 w' w.heap.size (fun _ => True) v1_ r2 ∧ Below w.heap.size w w' := by
  have hu27 := Try.underlying27
  have hu45 := Try.underlying45
  have HR0_1 := Aside0.mk hr0_1
  have HC0_1 := Aside0.mk hc0_1
  clear hr0_1 hc0_1
  unfold spec_DropTimer.f at h
  replace h := Option.bind_eq_some_iff.1 h
  obtain ⟨b, hb0, h⟩ := h
  have HGW := Aside0.mk hb0
  clear hb0
  have HB := Aside0.mk (Below.refl w.heap.size w)
  cases b with
  | false =>
    have h2 : some ((0 : Int), ([] : List (List S45)), false) = some (r1, r2, r3) := h
    simp only [Option.some.injEq, Prod.mk.injEq] at h2
    obtain ⟨rfl, rfl, rfl⟩ := h2
    clear h
    go_enter Try.func22, Try.ntmps22
    go_wp2_with (first | (go_at_call 19; refine (spec_GoodWheel.calls k a0_0 _ _ l0_1 false _ (Kd.C_below HR0_1.out (by repeat (first | exact HB.out | apply below_alloc | apply pw_below_drewN | apply below_drew1))) HC0_1.out HGW.out).mono ?_; rintro e w1 ⟨rfl, hb⟩; have HB1 : Aside0 (Below w.heap.size w w1) := ⟨below_then (below_alloc (below_alloc (Below.refl w.heap.size w) _) _) (below_alloc (below_alloc (Below.refl w.heap.size w) _) _).size hb⟩; have BK0 : Aside0 (w1.heap[w.heap.size]? = some (.cells #[.int .i64 a0_0, .slice A0_1 l0_1.length c0_1] 27 (0, 0))) := ⟨blk_below (by refine blk_alloc ?_ _; exact heap_alloc_new _ _) hb⟩; have BK1 : Aside0 (w1.heap[w.heap.size + 1]? = some (.cells #[.int .i64 0, .slice none 0 0] 27 (0, 0))) := ⟨blk_below (by have h_ := heap_alloc_new (w.alloc (.cells #[.int .i64 a0_0, .slice A0_1 l0_1.length c0_1] 27)) (.cells #[.int .i64 0, .slice none 0 0] 27); simpa using h_) hb⟩; clear hb; have hza0 : w1.cell? ⟨w.heap.size, 0, none⟩ = some (.int .i64 a0_0) := (blk_cell BK0.out 0).trans rfl; have hza1 : w1.cell? ⟨w.heap.size, 1, none⟩ = some (.slice A0_1 l0_1.length c0_1) := (blk_cell BK0.out 1).trans rfl; have hfa0 := blk_frozen BK0.out 0; have hfa1 := blk_frozen BK0.out 1; have hza3 : w1.cell? ⟨w.heap.size + 1, 0, none⟩ = some (.int .i64 0) := (blk_cell BK1.out 0).trans rfl; have hza4 : w1.cell? ⟨w.heap.size + 1, 1, none⟩ = some (.slice none 0 0) := (blk_cell BK1.out 1).trans rfl; have hfa3 := blk_frozen BK1.out 0; have hfa4 := blk_frozen BK1.out 1))
    refine bodyPost_ret (results_ct rfl _ _ (w.heap.size + 1) 27 #[.int .i64 0, .slice none 0 0] (0, 0) _ rfl (by refine blk_put (cs := #[.int .i64 0, .slice none 0 0]) ?_ 1 _ rfl; refine blk_put (cs := #[.int .i64 0, .slice none 0 0]) ?_ 0 _ rfl; exact BK1.out) Try.underlying27 rfl (by kernel_rfl)) rfl ?_
    exact ⟨_, rfl, Kd.S_nil _ _ _ _ _, (HB1.out.setCell (p := ⟨w.heap.size + 1, 0, none⟩) (Nat.le_add_right _ _) _).setCell (p := ⟨w.heap.size + 1, 1, none⟩) (Nat.le_add_right _ _) _⟩
  | true =>
    have h2 : ((spec_l5Own.f k a0_0 l0_1).bind fun x => if x.2.length < 4000000 ∧ (∀ row ∈ x.2, row.length < 4000000) then some (dropIn a1 x.1 x.2) else none) = some (r1, r2, r3) := h
    clear h
    replace h2 := Option.bind_eq_some_iff.1 h2
    obtain ⟨⟨x1, L⟩, hcw, h⟩ := h2
    have HCW := Aside0.mk hcw
    clear hcw
    by_cases hlen : L.length < 4000000 ∧ (∀ row ∈ L, row.length < 4000000)
    case neg => rw [if_neg hlen] at h; cases h
    rw [if_pos hlen] at h
    have HD := Aside0.mk (Option.some.inj h)
    have HLEN := Aside0.mk hlen
    clear hlen h
    go_enter Try.func22, Try.ntmps22
    go_wp2_with (first | (go_at_call 19; refine (spec_GoodWheel.calls k a0_0 _ _ l0_1 true _ (Kd.C_below HR0_1.out (by repeat (first | exact HB.out | apply below_alloc | apply pw_below_drewN | apply below_drew1))) HC0_1.out HGW.out).mono ?_; rintro e w1 ⟨rfl, hb⟩; have HB1 : Aside0 (Below w.heap.size w w1) := ⟨below_then (below_alloc (below_alloc (Below.refl w.heap.size w) _) _) (below_alloc (below_alloc (Below.refl w.heap.size w) _) _).size hb⟩; have BK0 : Aside0 (w1.heap[w.heap.size]? = some (.cells #[.int .i64 a0_0, .slice A0_1 l0_1.length c0_1] 27 (0, 0))) := ⟨blk_below (by refine blk_alloc ?_ _; exact heap_alloc_new _ _) hb⟩; have BK1 : Aside0 (w1.heap[w.heap.size + 1]? = some (.cells #[.int .i64 0, .slice none 0 0] 27 (0, 0))) := ⟨blk_below (by have h_ := heap_alloc_new (w.alloc (.cells #[.int .i64 a0_0, .slice A0_1 l0_1.length c0_1] 27)) (.cells #[.int .i64 0, .slice none 0 0] 27); simpa using h_) hb⟩; clear hb; have hza0 : w1.cell? ⟨w.heap.size, 0, none⟩ = some (.int .i64 a0_0) := (blk_cell BK0.out 0).trans rfl; have hza1 : w1.cell? ⟨w.heap.size, 1, none⟩ = some (.slice A0_1 l0_1.length c0_1) := (blk_cell BK0.out 1).trans rfl; have hfa0 := blk_frozen BK0.out 0; have hfa1 := blk_frozen BK0.out 1; have hza3 : w1.cell? ⟨w.heap.size + 1, 0, none⟩ = some (.int .i64 0) := (blk_cell BK1.out 0).trans rfl; have hza4 : w1.cell? ⟨w.heap.size + 1, 1, none⟩ = some (.slice none 0 0) := (blk_cell BK1.out 1).trans rfl; have hfa3 := blk_frozen BK1.out 0; have hfa4 := blk_frozen BK1.out 1) | (go_at_call 56; refine (spec_l5Own.calls k a0_0 _ _ l0_1 x1 L _ (Kd.C_below HR0_1.out HB1.out) HC0_1.out HCW.out).mono ?_; rintro e w3 ⟨v3, rfl, ho, hb⟩; have HB2 := Aside0.mk (below_then HB1.out HB1.out.size hb); have nBK0 := Aside0.mk (blk_below BK0.out hb); have nBK1 := Aside0.mk (blk_below BK1.out hb); have HOC := Aside0.mk (Kd.S_lower ho HB1.out.size); clear HB1 BK0 BK1 hb ho hza0 hza1 hza3 hza4 hfa0 hfa1 hfa3 hfa4; have HB1 := HB2; have BK0 := nBK0; have BK1 := nBK1; clear HB2 nBK0 nBK1; obtain ⟨AC, cC, rfl⟩ := Kd.S_slice HOC.out; have hzc0 : w3.cell? ⟨w.heap.size, 0, none⟩ = some (.int .i64 a0_0) := (blk_cell BK0.out 0).trans rfl; have hzc1 : w3.cell? ⟨w.heap.size, 1, none⟩ = some (.slice A0_1 l0_1.length c0_1) := (blk_cell BK0.out 1).trans rfl; have hfc0 := blk_frozen BK0.out 0; have hfc1 := blk_frozen BK0.out 1))
    have HB4 : Aside0 (Below w.heap.size w ((w3.setCell ⟨w.heap.size, 0, none⟩ (.int .i64 x1)).setCell ⟨w.heap.size, 1, none⟩ (.slice AC L.length cC))) := ⟨(HB1.out.setCell (p := ⟨w.heap.size, 0, none⟩) (Nat.le_refl _) (.int .i64 x1)).setCell (p := ⟨w.heap.size, 1, none⟩) (Nat.le_refl _) (.slice AC L.length cC)⟩
    have BO4 : Aside0 (((w3.setCell ⟨w.heap.size, 0, none⟩ (.int .i64 x1)).setCell ⟨w.heap.size, 1, none⟩ (.slice AC L.length cC)).heap[w.heap.size]? = some (.cells #[.int .i64 x1, .slice AC L.length cC] 27 (0, 0))) := ⟨by refine blk_put (cs := #[.int .i64 x1, .slice A0_1 l0_1.length c0_1]) ?_ 1 _ rfl; refine blk_put (cs := #[.int .i64 a0_0, .slice A0_1 l0_1.length c0_1]) ?_ 0 _ rfl; exact BK0.out⟩
    have BR4 : Aside0 (((w3.setCell ⟨w.heap.size, 0, none⟩ (.int .i64 x1)).setCell ⟨w.heap.size, 1, none⟩ (.slice AC L.length cC)).heap[w.heap.size + 1]? = some (.cells #[.int .i64 0, .slice none 0 0] 27 (0, 0))) := ⟨blk_far (p := ⟨w.heap.size, 1, none⟩) (blk_far (p := ⟨w.heap.size, 0, none⟩) BK1.out (by simp) _) (by simp) _⟩
    have HS4 : Aside0 (Kd.S (Kd.slice 45 k45) 48 ((w3.setCell ⟨w.heap.size, 0, none⟩ (.int .i64 x1)).setCell ⟨w.heap.size, 1, none⟩ (.slice AC L.length cC)) w.heap.size (fun _ => True) (.slice AC L.length cC) L) := ⟨Kd.S_mono (Kd.S_far (p := ⟨w.heap.size, 1, none⟩) (Kd.S_far (p := ⟨w.heap.size, 0, none⟩) (Kd.S_types HOC.out BK0.out (by decide)) (fun k hk => hk.2) (.int .i64 x1)) (fun k hk => hk.2) (.slice AC L.length cC)) (fun _ _ => trivial)⟩
    clear HOC HB1 BK0 BK1 hzc0 hzc1 hfc0 hfc1
    go_loopg [19] L.length (fun kq v19 w' => ∃ i : Nat, v19 = .int .i64 (i : Int) ∧ Aside0 (i + kq = L.length) ∧ Aside0 (∀ row ∈ L.take i, ∀ t ∈ row, t.f1 ≠ a1) ∧ Aside0 (Kd.S (Kd.slice 45 k45) 48 w' w.heap.size (fun _ => True) (.slice AC L.length cC) L) ∧ Aside0 (Below w.heap.size w w') ∧ Aside0 (w'.heap[w.heap.size]? = some (.cells #[.int .i64 x1, .slice AC L.length cC] 27 (0, 0))) ∧ Aside0 (w'.heap[w.heap.size + 1]? = some (.cells #[.int .i64 0, .slice none 0 0] 27 (0, 0))))
    case atStart => exact ⟨0, rfl, ⟨by omega⟩, ⟨by simp⟩, HS4, HB4, BO4, BR4⟩
    case round =>
      clear HS4 HB4 BO4 BR4
      obtain ⟨i, rfl, HI, HN, HS, HB2, BO, BR⟩ := hrel
      by_cases hlt : i < L.length
      · obtain ⟨g, cap, hv, hbg, hgl, _⟩ := Kd.S_form HS.out (by omega)
        injection hv with ha he_ hc
        subst ha
        subst hc
        clear he_
        obtain ⟨oki, A, c, hR, hx, hf, hok, _⟩ := ws_row HS.out i hlt
        obtain ⟨row, hrow⟩ : ∃ row, row = L.getD i [] := ⟨_, rfl⟩
        rw [← hrow] at hR hx
        have HROW := Aside0.mk hrow
        have HCR := Aside0.mk (Kd.R_reads' hR).2.2
        have HCC := Aside0.mk (Kd.R_reads' hR).2.1
        have HRL := Aside0.mk (show row.length < 4000000 by rw [HROW.out, List.getD_eq_getElem?_getD, List.getElem?_eq_getElem hlt]; exact HLEN.out.2 _ (List.getElem_mem hlt))
        have HBG := Aside0.mk hbg
        have HLT := Aside0.mk hlt
        clear hrow hR hok hbg hf
        have hd : decide (i < L.length) = true := decide_eq_true hlt
        have hq : (i < L.length) = True := eq_true hlt
        have hd0 : decide (0 ≤ (i : Int)) = true := decide_eq_true (by omega)
        clear hlt
        cases gk with
        | zero => exact absurd HI.out (by have := HLT.out; omega)
        | succ ko =>
        go_wp2
        clear hx
        go_loopg [26] row.length (fun kq v26 w' => ∃ x : Int, v26 = .int .i64 x ∧ Aside0 (0 ≤ x ∧ x.toNat + kq = row.length) ∧ Aside0 (∀ t ∈ row.take x.toNat, t.f1 ≠ a1) ∧ Aside0 (Kd.C k45 w' A row.length row) ∧ Aside0 (Kd.S (Kd.slice 45 k45) 48 w' w.heap.size (fun _ => True) (.slice (some ⟨g, 0, none⟩) L.length cC) L) ∧ Aside0 (Below w.heap.size w w') ∧ Aside0 (w'.heap[w.heap.size]? = some (.cells #[.int .i64 x1, .slice (some ⟨g, 0, none⟩) L.length cC] 27 (0, 0))) ∧ Aside0 (w'.heap[w.heap.size + 1]? = some (.cells #[.int .i64 0, .slice none 0 0] 27 (0, 0))))
        case atStart => exact ⟨0, rfl, ⟨by omega, by simp⟩, ⟨by simp⟩, HCR, HS, HB2, BO, BR⟩
        case round =>
          clear HCR HS HB2 BO BR
          obtain ⟨x, rfl, HJ, HNR, HCR, HS, HB2, BO, BR⟩ := hrel
          by_cases hlt : x < (row.length : Int)
          · have p8 : 0 ≤ x := HJ.out.1
            obtain ⟨ad, e0, hx0, hx1⟩ := at_T45 HCR.out x p8 hlt
            cases e0
            have hltb : decide (x < (row.length : Int)) = true := decide_eq_true hlt
            have HJ2 := Aside0.mk hlt
            replace p8 := eq_true p8
            have q8 := eq_true hlt
            clear hlt
            obtain ⟨b, hb⟩ : ∃ b, ((rd_T45 row x).f1 == a1) = b := ⟨_, rfl⟩
            have HBX : Aside0 ((wr.alloc (.cells #[.int .i64 (rd_T45 row x).f0, .int .i64 (rd_T45 row x).f1] 45)).heap[wr.heap.size]? = some (.cells #[.int .i64 (rd_T45 row x).f0, .int .i64 (rd_T45 row x).f1] 45 (0, 0))) := ⟨heap_alloc_new _ _⟩
            cases b with
            | false =>
              cases gk with
              | zero => exact absurd HJ.out.2 (by have := HJ2.out; have := HJ.out.1; omega)
              | succ k1 =>
              have HW := Aside0.mk (show wrap64 (x + 1) = x + 1 by unfold wrap64; have := HJ2.out; have := HJ.out.1; have := HRL.out; omega)
              go_wp2
              go_roundg k1
              case measure => omega
              case rel =>
                refine ⟨wrap64 (x + 1), rfl, ⟨?_, ?_⟩, ⟨?_⟩, ⟨Kd.C_alloc HCR.out _⟩, ⟨Kd.S_alloc HS.out _⟩, ⟨below_alloc HB2.out _⟩, ⟨blk_alloc BO.out _⟩, ⟨blk_alloc BR.out _⟩⟩
                · rw [HW.out]; have := HJ.out.1; omega
                · rw [HW.out]; have := HJ.out; omega
                · rw [HW.out, show (x + 1).toNat = x.toNat + 1 by have := HJ.out.1; omega]
                  intro t ht
                  have hl2 : x.toNat < row.length := by have := HJ2.out; have := HJ.out.1; omega
                  rw [List.take_succ_eq_append_getElem hl2, List.mem_append, List.mem_singleton] at ht
                  rcases ht with ht | rfl
                  · exact HNR.out t ht
                  · have h2 := hb
                    unfold rd_T45 at h2
                    rw [List.getD_eq_getElem?_getD, List.getElem?_eq_getElem hl2] at h2
                    intro he
                    have h3 : (row[x.toNat].f1 == a1) = true := by rw [he]; simp
                    rw [show ((some row[x.toNat]).getD z45).f1 = row[x.toNat].f1 from rfl] at h2
                    rw [h2] at h3
                    cases h3
            | true =>
              have HX1 := Aside0.mk (show 0 ≤ wrap64 (x + 1) ∧ wrap64 (x + 1) ≤ (row.length : Int) ∧ (wrap64 (x + 1)).toNat = x.toNat + 1 by unfold wrap64; have := HJ2.out; have := HJ.out.1; have := HRL.out; omega)
              go_wp2
              clear hx0 hx1
              obtain ⟨hi045, hie45, hiz45⟩ := Option.map_eq_some_iff.1 info45
              simp only [Prod.mk.injEq] at hiz45
              have hto := cut_to (P := Try.prog) 48 45 .i64 Try.underlying48 hie45 (some ad) row.length c x HJ.out.1 (by have := HJ2.out; omega) HCC.out
              have hfrom := cut_from (P := Try.prog) 48 45 .i64 Try.underlying48 hie45 2 hiz45.2.1 (some ad) row.length c (wrap64 (x + 1)) HX1.out.1 HX1.out.2.1
              refine start_ (n := 15) (S := fun w' => w'.cell? ⟨w.heap.size, 1, none⟩ = some (.slice (some ⟨g, 0, none⟩) L.length cC)) (ds := []) #[false, false, false, false, false, false, false, false, false, false, false, false, false, false, false] (by kernel_rfl) rfl rfl ((blk_cell (blk_alloc BO.out _) 1).trans rfl) (fun hHeld => ?_)
              have nHCR := Aside0.mk (Kd.C_drew (Kd.C_alloc HCR.out (.cells #[.int .i64 (rd_T45 row x).f0, .int .i64 (rd_T45 row x).f1] 45)))
              have nHS := Aside0.mk (Kd.S_drew (Kd.S_alloc HS.out (.cells #[.int .i64 (rd_T45 row x).f0, .int .i64 (rd_T45 row x).f1] 45)))
              have nHB2 := Aside0.mk (below_drew1 (below_alloc HB2.out (.cells #[.int .i64 (rd_T45 row x).f0, .int .i64 (rd_T45 row x).f1] 45)))
              have nBO := Aside0.mk (blk_drew (blk_alloc BO.out (.cells #[.int .i64 (rd_T45 row x).f0, .int .i64 (rd_T45 row x).f1] 45)))
              have nBR := Aside0.mk (blk_drew (blk_alloc BR.out (.cells #[.int .i64 (rd_T45 row x).f0, .int .i64 (rd_T45 row x).f1] 45)))
              clear HCR HS HB2 BO BR HBX
              generalize (World.alloc wr (.cells #[.int .i64 (rd_T45 row x).f0, .int .i64 (rd_T45 row x).f1] 45)).drew = W0 at hHeld nHCR nHS nHB2 nBO nBR ⊢
              have HCR := nHCR
              clear nHCR
              have HS := nHS
              clear nHS
              have HB2 := nHB2
              clear nHB2
              have BO := nBO
              clear nBO
              have BR := nBR
              clear nBR
              refine pure_ (i := 0) (N := some 35) (v := ?_) (a' := ?_) #[true, false, false, false, false, false, false, false, false, false, false, false, false, false, false] rfl rfl (by kernel_rfl) (fun _ _ _ h => h) (Or.inl ⟨by rfl, ?_⟩) ?_ ?_
              rotate_left
              · intro w'
                go_simp
                with_reducible rfl
              rotate_left
              · simp only [Act.put, List.setIfInBounds_toArray, List.set_cons_zero, List.set_cons_succ, i64_w, i32_w]
                rfl
              refine take_ (i := 1) (N := some 36) (v := ?_) (a' := ?_) #[true, true, false, false, false, false, false, false, false, false, false, false, false, false, false] rfl rfl (by kernel_rfl) (fun _ _ _ h => h) (Or.inl ⟨by rfl, ?_⟩) hHeld ?_ ?_
              rotate_left
              · rintro w' s0
                go_simp
                with_reducible rfl
              rotate_left
              · simp only [Act.put, List.setIfInBounds_toArray, List.set_cons_zero, List.set_cons_succ, i64_w, i32_w]
                rfl
              refine pure_ (i := 2) (N := some 37) (v := ?_) (a' := ?_) #[true, true, true, false, false, false, false, false, false, false, false, false, false, false, false] rfl rfl (by kernel_rfl) (fun _ _ _ h => h) (Or.inl ⟨by rfl, ?_⟩) ?_ ?_
              rotate_left
              · intro w'
                go_simp
                with_reducible rfl
              rotate_left
              · simp only [Act.put, List.setIfInBounds_toArray, List.set_cons_zero, List.set_cons_succ, i64_w, i32_w]
                rfl
              refine pure_ (i := 4) (N := some 39) (v := ?_) (a' := ?_) #[true, true, true, false, true, false, false, false, false, false, false, false, false, false, false] rfl rfl (by kernel_rfl) (fun _ _ _ h => h) (Or.inl ⟨by rfl, ?_⟩) ?_ ?_
              rotate_left
              · intro w'
                go_simp
                with_reducible rfl
              rotate_left
              · simp only [Act.put, List.setIfInBounds_toArray, List.set_cons_zero, List.set_cons_succ, i64_w, i32_w]
                rfl
              refine pure_ (i := 5) (N := some 40) (v := ?_) (a' := ?_) #[true, true, true, false, true, true, false, false, false, false, false, false, false, false, false] rfl rfl (by kernel_rfl) (fun _ _ _ h => h) (Or.inl ⟨by rfl, ?_⟩) ?_ ?_
              rotate_left
              · intro w'
                go_simp
                with_reducible rfl
              rotate_left
              · simp only [Act.put, List.setIfInBounds_toArray, List.set_cons_zero, List.set_cons_succ, i64_w, i32_w]
                rfl
              refine pure_ (i := 6) (N := some 41) (v := ?_) (a' := ?_) #[true, true, true, false, true, true, true, false, false, false, false, false, false, false, false] rfl rfl (by kernel_rfl) (fun _ _ _ h => h) (Or.inl ⟨by rfl, ?_⟩) ?_ ?_
              rotate_left
              · intro w'
                go_simp
                with_reducible rfl
              rotate_left
              · simp only [Act.put, List.setIfInBounds_toArray, List.set_cons_zero, List.set_cons_succ, i64_w, i32_w]
                rfl
              refine pure_ (i := 8) (N := some 43) (v := ?_) (a' := ?_) #[true, true, true, false, true, true, true, false, true, false, false, false, false, false, false] rfl rfl (by kernel_rfl) (fun _ _ _ h => h) (Or.inl ⟨by rfl, ?_⟩) ?_ ?_
              rotate_left
              · intro w'
                go_simp
                with_reducible rfl
              rotate_left
              · simp only [Act.put, List.setIfInBounds_toArray, List.set_cons_zero, List.set_cons_succ, i64_w, i32_w]
                rfl
              refine pure_ (i := 9) (N := some 44) (v := ?_) (a' := ?_) #[true, true, true, false, true, true, true, false, true, true, false, false, false, false, false] rfl rfl (by kernel_rfl) (fun _ _ _ h => h) (Or.inl ⟨by rfl, ?_⟩) ?_ ?_
              rotate_left
              · intro w'
                go_simp
                with_reducible rfl
              rotate_left
              · simp only [Act.put, List.setIfInBounds_toArray, List.set_cons_zero, List.set_cons_succ, i64_w, i32_w]
                rfl
              refine pure_ (i := 10) (N := some 45) (v := ?_) (a' := ?_) #[true, true, true, false, true, true, true, false, true, true, true, false, false, false, false] rfl rfl (by kernel_rfl) (fun _ _ _ h => h) (Or.inl ⟨by rfl, ?_⟩) ?_ ?_
              rotate_left
              · intro w'
                go_simp
                with_reducible rfl
              rotate_left
              · simp only [Act.put, List.setIfInBounds_toArray, List.set_cons_zero, List.set_cons_succ, i64_w, i32_w]
                rfl
              refine pure_ (i := 11) (N := some 46) (v := ?_) (a' := ?_) #[true, true, true, false, true, true, true, false, true, true, true, true, false, false, false] rfl rfl (by kernel_rfl) (fun _ _ _ h => h) (Or.inl ⟨by rfl, ?_⟩) ?_ ?_
              rotate_left
              · intro w'
                go_simp
                with_reducible rfl
              rotate_left
              · simp only [Act.put, List.setIfInBounds_toArray, List.set_cons_zero, List.set_cons_succ, i64_w, i32_w]
                rfl
              refine one_ (i := 3) (N := some 38) #[true, true, true, true, true, true, true, false, true, true, true, true, false, false, false] rfl rfl (by kernel_rfl) (by decide) (fun K hK => ?_)
              refine Kd.R_lit_step k45 (w0 := W0) W0.heap.size 45 (by rfl) (N := 38) rfl (xs := ([] : List S45)) (inner := []) (ok := fun _ => True) (okp := fun _ => True) ?hr (Reps.none _ _) (fun _ hk => hk) trivial (Below.refl _ _) (Nat.le_refl _) (by simp) ?_
              case hr => first | (go_simp; done) | (go_simp; rfl)
              intro v5 w5 ho hb5 _ _
              have HO5 := Aside0.mk ho
              have ST5 := Aside0.mk hb5
              clear ho hb5
              refine hK.out _ _ ((blk_cell (blk_below BO.out ST5.out) 1).trans rfl) (fun hHeld => ?_)
              clear hK K
              refine norm_ (a' := ?_) ?_ ?_
              rotate_left
              · show Act.put _ (some 38) _ = _
                simp only [Act.put, List.setIfInBounds_toArray, List.set_cons_zero, List.set_cons_succ, i64_w, i32_w]
                rfl
              refine one_ (i := 7) (N := some 42) #[true, true, true, true, true, true, true, true, true, true, true, true, false, false, false] rfl rfl (by kernel_rfl) (by decide) (fun K hK => ?_)
              have hkl : (row.take x.toNat).length = x.toNat := by rw [List.length_take]; have := HJ2.out; have := HJ.out.1; omega
              refine Kd.R_append_rows_step k45 (w0 := W0) W0.heap.size (by rfl) (.tmp 38) (.tmp 41) 48 45 (.agg #[(.int .i64 0), (.int .i64 0)]) 16 rfl Try.underlying48 info45 rfl (by decide) (by omega) v5 ([] : List S45) (row.take x.toNat) (some ad) x.toNat c (fun _ => True) (fun _ => False) rfl rfl HO5.out ?aR (fun _ _ h => h) (fun _ h => h.elim) (fun _ _ => trivial) ST5.out ST5.out.size ?aL ?_
              case aR => have h_ := Kd.C_take (Kd.C_below HCR.out ST5.out) (m := x.toNat) (by have := HJ2.out; have := HJ.out.1; omega); rw [hkl] at h_; exact h_
              case aL => have := HRL.out; have := HJ2.out; have := HJ.out.1; simp; omega
              intro v6 w6 ho hb6 _ _
              clear hkl
              have HO6 := Aside0.mk ho
              have ST6 := Aside0.mk hb6
              clear ho hb6 HO5 ST5
              refine hK.out _ _ ((blk_cell (blk_below BO.out ST6.out) 1).trans rfl) (fun hHeld => ?_)
              clear hK K
              refine norm_ (a' := ?_) ?_ ?_
              rotate_left
              · show Act.put _ (some 42) _ = _
                simp only [Act.put, List.setIfInBounds_toArray, List.set_cons_zero, List.set_cons_succ, i64_w, i32_w]
                rfl
              refine one_ (i := 12) (N := some 47) #[true, true, true, true, true, true, true, true, true, true, true, true, true, false, false] rfl rfl (by kernel_rfl) (by decide) (fun K hK => ?_)
              have hkl : (row.drop (wrap64 (x + 1)).toNat).length = row.length - (wrap64 (x + 1)).toNat := List.length_drop
              refine Kd.R_append_rows_step k45 (w0 := W0) W0.heap.size (by rfl) (.tmp 42) (.tmp 46) 48 45 (.agg #[(.int .i64 0), (.int .i64 0)]) 16 rfl Try.underlying48 info45 rfl (by decide) (by omega) v6 ([] ++ row.take x.toNat) (row.drop (wrap64 (x + 1)).toNat) _ (row.length - (wrap64 (x + 1)).toNat) _ (fun _ => True) (fun _ => False) rfl rfl HO6.out ?aR (fun _ _ h => h) (fun _ h => h.elim) (fun _ _ => trivial) ST6.out ST6.out.size ?aL ?_
              case aR => have h_ := Kd.C_drop (c := c) (Kd.C_below HCR.out ST6.out) (m := (wrap64 (x + 1)).toNat) (by have := HX1.out; have := HJ2.out; have := HJ.out.1; omega) HCC.out; rw [hkl] at h_; exact h_
              case aL => have := HRL.out; have := HX1.out; have := HJ2.out; have := HJ.out.1; simp; omega
              intro v7 w7 ho hb7 _ _
              clear hkl
              have HO7 := Aside0.mk ho
              obtain ⟨A7, c7, hv7⟩ := Kd.R_slice ho
              obtain ⟨n7, hn7⟩ : ∃ q, q = ([] ++ row.take x.toNat ++ row.drop (wrap64 (x + 1)).toNat).length := ⟨_, rfl⟩
              rw [← hn7] at hv7
              subst hv7
              clear hn7
              have ST7 := Aside0.mk hb7
              clear ho hb7 HO6 ST6
              refine hK.out _ _ ((blk_cell (blk_below BO.out ST7.out) 1).trans rfl) (fun hHeld => ?_)
              clear hK K
              refine norm_ (a' := ?_) ?_ ?_
              rotate_left
              · show Act.put _ (some 47) _ = _
                simp only [Act.put, List.setIfInBounds_toArray, List.set_cons_zero, List.set_cons_succ, i64_w, i32_w]
                rfl
              refine pure_ (i := 13) (N := some 48) (v := ?_) (a' := ?_) #[true, true, true, true, true, true, true, true, true, true, true, true, true, true, false] rfl rfl (by kernel_rfl) (fun _ _ _ h => h) (Or.inl ⟨by rfl, ?_⟩) ?_ ?_
              rotate_left
              · intro w'
                go_simp
                with_reducible rfl
              rotate_left
              · simp only [Act.put, List.setIfInBounds_toArray, List.set_cons_zero, List.set_cons_succ, i64_w, i32_w]
                rfl
              refine one_ (i := 14) (N := none) #[true, true, true, true, true, true, true, true, true, true, true, true, true, true, true] rfl rfl (by kernel_rfl) (by decide) (fun K hK => ?_)
              obtain ⟨oki, A2, c2, hR2, hx2, hf2, hok2, hback⟩ := ws_row HS.out i HLT.out
              have hs0_ := pw_cell_below ST7.out hx2
              have hf0_ : w7.frozen? ⟨g, i, none⟩ = false := by have h2 := hf2; unfold World.frozen? at h2 ⊢; rw [ST7.out.block g (Kd.S_lt HS.out g rfl)]; exact h2
              refine skip_ (w1 := ?_) (by rfl) rfl ?_ ?_
              rotate_left
              · go_simp
                rfl
              clear hs0_ hf0_ hx2 hf2
              have HO8 := Aside0.mk (Kd.R_lower (Kd.R_bound HO7.out) HB2.out.size)
              have HS8 := Aside0.mk (hback (W' := w7) (ok' := fun _ => True) (Kept.of_below ST7.out _) (fun _ _ => trivial) (fun _ _ _ => trivial) HO8.out (fun k hk => .inr hk.2.1))
              have HNG0 := Aside0.mk (show w.heap.size ≠ g by intro he; have h2 := Kd.S_ne HS.out BO.out (by decide); simp [Value.ownBlock] at h2; exact h2 he)
              have HNG1 := Aside0.mk (show w.heap.size + 1 ≠ g by intro he; have h2 := Kd.S_ne HS.out BR.out (by decide); simp [Value.ownBlock] at h2; exact h2 he)
              have BO8 := Aside0.mk (blk_far (blk_below BO.out ST7.out) (p := ⟨g, i, none⟩) HNG0.out (.slice A7 n7 c7))
              have BR8 := Aside0.mk (blk_far (blk_below BR.out ST7.out) (p := ⟨g, i, none⟩) HNG1.out (.slice A7 n7 c7))
              have HB8 := Aside0.mk ((below_then HB2.out HB2.out.size ST7.out).setCell (p := ⟨g, i, none⟩) HBG.out (.slice A7 n7 c7))
              clear hR2 hok2 hback
              refine hK.out _ _ ((blk_cell BO8.out 1).trans rfl) (fun hHeld => ?_)
              clear hK K
              refine done_ (by kernel_rfl) ?_
              clear hHeld hto hfrom
              generalize World.setCell w7 ⟨g, i, none⟩ (.slice A7 n7 c7) = w8 at HS8 BO8 BR8 HB8 ⊢
              have hzo0 : w8.cell? ⟨w.heap.size, 0, none⟩ = some (.int .i64 x1) := (blk_cell BO8.out 0).trans rfl
              have hzo1 : w8.cell? ⟨w.heap.size, 1, none⟩ = some (.slice (some ⟨g, 0, none⟩) L.length cC) := (blk_cell BO8.out 1).trans rfl
              have hzr0 : w8.cell? ⟨w.heap.size + 1, 0, none⟩ = some (.int .i64 0) := (blk_cell BR8.out 0).trans rfl
              have hzr1 : w8.cell? ⟨w.heap.size + 1, 1, none⟩ = some (.slice none 0 0) := (blk_cell BR8.out 1).trans rfl
              have hfr0 := blk_frozen BR8.out 0
              have hfr1 := blk_frozen BR8.out 1
              have hfound : dropIn a1 x1 L = (x1, L.set i ([] ++ row.take x.toNat ++ row.drop (wrap64 (x + 1)).toNat), true) := by
                have hl2 : i < L.length := HLT.out
                have hl3 : x.toNat < row.length := by have := HJ2.out; have := HJ.out.1; omega
                have hr2 : row = L[i] := by rw [HROW.out, List.getD_eq_getElem?_getD, List.getElem?_eq_getElem hl2]; rfl
                have h2 : row[x.toNat].f1 = a1 := by
                  have h3 := hb
                  unfold rd_T45 at h3
                  rw [List.getD_eq_getElem?_getD, List.getElem?_eq_getElem hl3] at h3
                  exact eq_of_beq h3
                have h4 := rowDrop_at a1 row x.toNat hl3 HNR.out h2
                have h5 := rowsDrop_at a1 L i hl2 (row.take x.toNat ++ row.drop (x.toNat + 1)) HN.out (by rw [← hr2]; exact h4)
                unfold dropIn
                rw [h5, HX1.out.2.2, List.nil_append]
              have h3 := HD.out
              rw [hfound] at h3
              simp only [Prod.mk.injEq] at h3
              obtain ⟨rfl, rfl, rfl⟩ := h3
              clear hfound
              go_wp2
              all_goals
               refine bodyPost_ret (results_ct rfl _ _ (w.heap.size + 1) 27 #[.int .i64 x1, .slice (some ⟨g, 0, none⟩) L.length cC] (0, 0) _ rfl (by refine blk_put (cs := #[.int .i64 x1, .slice none 0 0]) ?_ 1 _ rfl; refine blk_put (cs := #[.int .i64 0, .slice none 0 0]) ?_ 0 _ rfl; exact BR8.out) Try.underlying27 rfl (by kernel_rfl)) rfl ?_
               exact ⟨_, rfl, Kd.S_mono (Kd.S_far (p := ⟨w.heap.size + 1, 1, none⟩) (Kd.S_far (p := ⟨w.heap.size + 1, 0, none⟩) (Kd.S_types HS8.out BR8.out (by decide)) (fun k hk => hk.2) (.int .i64 x1)) (fun k hk => hk.2) (.slice (some ⟨g, 0, none⟩) L.length cC)) (fun _ _ => trivial), (HB8.out.setCell (p := ⟨w.heap.size + 1, 0, none⟩) (Nat.le_add_right _ _) _).setCell (p := ⟨w.heap.size + 1, 1, none⟩) (Nat.le_add_right _ _) _⟩
          · have hltb : decide (x < (row.length : Int)) = false := decide_eq_false hlt
            have HJ2 := Aside0.mk hlt
            clear hlt
            go_wp2
            go_roundg ko
            case measure => omega
            case rel =>
              refine ⟨i + 1, ?_, ⟨by have := HI.out; omega⟩, ⟨?_⟩, HS, HB2, BO, BR⟩
              · congr 1; unfold wrap64; have := HLT.out; have := HLEN.out.1; omega
              · intro q hq t ht
                have hl2 : i < L.length := HLT.out
                rw [List.take_succ_eq_append_getElem hl2, List.mem_append, List.mem_singleton] at hq
                rcases hq with hq | rfl
                · exact HN.out q hq t ht
                · have hr2 : row = L[i] := by rw [HROW.out, List.getD_eq_getElem?_getD, List.getElem?_eq_getElem hl2]; rfl
                  rw [← hr2] at ht
                  have h2 := HNR.out
                  rw [List.take_of_length_le (by have := HJ2.out; have := HJ.out.1; omega)] at h2
                  exact h2 t ht
      · have hd : decide (i < L.length) = false := decide_eq_false hlt
        have HLT := Aside0.mk hlt
        clear hlt
        have hnone : rowsDrop a1 L = none := rowsDrop_none a1 L (by have h2 := HN.out; rwa [List.take_of_length_le (by have := HLT.out; omega)] at h2)
        have h3 := HD.out
        unfold dropIn at h3
        rw [hnone] at h3
        simp only [Prod.mk.injEq] at h3
        obtain ⟨rfl, rfl, rfl⟩ := h3
        clear hnone
        have hzr0 : wr.cell? ⟨w.heap.size + 1, 0, none⟩ = some (.int .i64 0) := (blk_cell BR.out 0).trans rfl
        have hzr1 : wr.cell? ⟨w.heap.size + 1, 1, none⟩ = some (.slice none 0 0) := (blk_cell BR.out 1).trans rfl
        have hfr0 := blk_frozen BR.out 0
        have hfr1 := blk_frozen BR.out 1
        go_wp2
        refine bodyPost_ret (results_ct rfl _ _ (w.heap.size + 1) 27 #[.int .i64 0, .slice none 0 0] (0, 0) _ rfl (by refine blk_put (cs := #[.int .i64 0, .slice none 0 0]) ?_ 1 _ rfl; refine blk_put (cs := #[.int .i64 0, .slice none 0 0]) ?_ 0 _ rfl; exact BR.out) Try.underlying27 rfl (by kernel_rfl)) rfl ?_
        exact ⟨_, rfl, Kd.S_nil _ _ _ _ _, (HB2.out.setCell (p := ⟨w.heap.size + 1, 0, none⟩) (Nat.le_add_right _ _) _).setCell (p := ⟨w.heap.size + 1, 1, none⟩) (Nat.le_add_right _ _) _⟩

/-! ### impl_in: function 55 -/
def impl_in.f (a0 : Int) (a1 : Int) (a2 : Int) : Option (Bool) := if a0 ≥ a1 then (some (decide (a0 ≤ a2))) else (some false)
set_option maxHeartbeats 8000000 in
set_option maxRecDepth 100000 in
theorem impl_in.calls (a0 : Int) (a1 : Int) (a2 : Int) (r : Bool) (w : World) (h : impl_in.f a0 a1 a2 = some r) :
    Calls Try.prog 55 #[.int .i64 a0, .int .i64 a1, .int .i64 a2] w fun e w' => e = .returned (.bool r) ∧ Drawn0 w w' := by
  have H : (if a0 ≥ a1 then (some (decide (a0 ≤ a2))) else (some false)) = some r := h
  clear h
  by_cases c4 : a0 ≥ a1
  · rw [if_pos c4] at H
    have c4b0 : decide (a1 ≤ a0) = true := decide_eq_true c4
    clear c4
    obtain rfl := Option.some.inj H
    go_enter Try.func55, Try.ntmps55
    go_wp2
    go_ret
    exact ⟨by first | rfl | (simp; done) | (simp [*]; done), by repeat (first | exact Drawn0.refl _ | apply Drawn0.step)⟩
  · rw [if_neg c4] at H
    have c4b0 : decide (a1 ≤ a0) = false := decide_eq_false c4
    clear c4
    obtain rfl := Option.some.inj H
    go_enter Try.func55, Try.ntmps55
    go_wp2
    go_ret
    exact ⟨by first | rfl | (simp; done) | (simp [*]; done), by repeat (first | exact Drawn0.refl _ | apply Drawn0.step)⟩

/-! ### impl_isNow: function 42 -/
def impl_isNow.f (a0 : Int) : Option (Bool) := (impl_in.f a0 0 100000).bind fun t174 => (some t174)
set_option maxHeartbeats 8000000 in
set_option maxRecDepth 100000 in
theorem impl_isNow.calls (a0 : Int) (r : Bool) (w : World) (h : impl_isNow.f a0 = some r) :
    Calls Try.prog 42 #[.int .i64 a0] w fun e w' => e = .returned (.bool r) ∧ Drawn0 w w' := by
  have H : ((impl_in.f a0 0 100000).bind fun t174 => (some t174)) = some r := h
  clear h
  replace H := Option.bind_eq_some_iff.mp H
  obtain ⟨t174, A20, H⟩ := H
  replace H : (some t174) = some r := H
  have A2 := Aside0.mk A20
  clear A20
  obtain rfl := Option.some.inj H
  go_enter Try.func42, Try.ntmps42
  go_wp2_with (first | ((with_reducible refine gate_callee (f := 55) rfl ?_); refine goesL_ (some 4) rfl rfl Try.func55 (by kernel_rfl) rfl #[.int .i64 a0, .int .i64 0, .int .i64 100000] rfl (by (try simp only [List.map_toArray, List.map_cons, List.map_nil]); first | done | rfl | (simp only [List.length_drop, List.length_take]; rfl)) ?_; (with_reducible refine (impl_in.calls a0 0 100000 t174 _ A2.out).mono ?_); rintro e w' ⟨rfl, ⟨nd, rfl⟩⟩; refine ⟨_, rfl, ?_⟩))
  go_ret
  exact ⟨by first | rfl | (simp; done) | (simp [*]; done), by repeat (first | exact Drawn0.refl _ | apply Drawn0.step)⟩

/-! ### impl_reach: function 43 -/
def impl_reach.f (a0 : Int) (a1 : Int) : Option (Bool) := if a1 > a0 then (some (decide (a1 < (wrap64 (a0 + 512))))) else (some false)
set_option maxHeartbeats 8000000 in
set_option maxRecDepth 100000 in
theorem impl_reach.calls (a0 : Int) (a1 : Int) (r : Bool) (w : World) (h : impl_reach.f a0 a1 = some r) :
    Calls Try.prog 43 #[.int .i64 a0, .int .i64 a1] w fun e w' => e = .returned (.bool r) ∧ Drawn0 w w' := by
  have H : (if a1 > a0 then (some (decide (a1 < (wrap64 (a0 + 512))))) else (some false)) = some r := h
  clear h
  by_cases c3 : a1 > a0
  · rw [if_pos c3] at H
    have c3b0 : decide (a0 < a1) = true := decide_eq_true c3
    clear c3
    obtain rfl := Option.some.inj H
    go_enter Try.func43, Try.ntmps43
    go_wp2
    go_ret
    exact ⟨by first | rfl | (simp; done) | (simp [*]; done), by repeat (first | exact Drawn0.refl _ | apply Drawn0.step)⟩
  · rw [if_neg c3] at H
    have c3b0 : decide (a0 < a1) = false := decide_eq_false c3
    clear c3
    obtain rfl := Option.some.inj H
    go_enter Try.func43, Try.ntmps43
    go_wp2
    go_ret
    exact ⟨by first | rfl | (simp; done) | (simp [*]; done), by repeat (first | exact Drawn0.refl _ | apply Drawn0.step)⟩

/-! ### impl_units: function 72 -/
def impl_units.l0 : Nat → Int → Int → Int → Option (Int)
  | 0, _, _, _ => none
  | k + 1, x3, x4, x5 => if x5 < x4 then (impl_units.l0 k (wrap64 (x3 * 8)) x4 (wrap64 (x5 + 1))) else (some x3)
def impl_units.f (k : Nat) (a0 : Int) : Option (Int) := impl_units.l0 k 1 a0 0
theorem impl_units.mono_l : ∀ k, (∀ y0 y1 y2, LeO (impl_units.l0 k y0 y1 y2) (impl_units.l0 (k + 1) y0 y1 y2))
  | 0 => fun _ _ _ r h => by simp [impl_units.l0] at h
  | k + 1 => by
    have ih0 := impl_units.mono_l k
    · intro y0 y1 y2
      unfold impl_units.l0
      repeat' first
      | (with_reducible exact ih0 _ _ _)
      | (with_reducible exact LeO.refl _)
      | (with_reducible exact LeO.none _)
      | (with_reducible refine LeO.ite ?_ ?_)
      | (with_reducible refine LeO.bind ?_ (fun _ => ?_))
      | exact ih0 _ _ _
      | exact LeO.none _
      | refine LeO.ite ?_ ?_
      | refine LeO.bind ?_ (fun _ => ?_)
theorem impl_units.mono : ∀ a0 k, LeO (impl_units.f k a0) (impl_units.f (k + 1) a0) := by
  intro a0 k
  have ih0 := impl_units.mono_l k
  unfold impl_units.f
  repeat' first
      | (with_reducible exact ih0 _ _ _)
      | (with_reducible exact LeO.refl _)
      | (with_reducible exact LeO.none _)
      | (with_reducible refine LeO.ite ?_ ?_)
      | (with_reducible refine LeO.bind ?_ (fun _ => ?_))
      | exact ih0 _ _ _
      | exact LeO.none _
      | refine LeO.ite ?_ ?_
      | refine LeO.bind ?_ (fun _ => ?_)
set_option maxHeartbeats 8000000 in
set_option maxRecDepth 100000 in
theorem impl_units.calls (k : Nat) (a0 : Int) (r : Int) (w : World) (h : impl_units.f k a0 = some r) :
    Calls Try.prog 72 #[.int .i64 a0] w fun e w' => e = .returned (.int .i64 r) ∧ Drawn0 w w' := by
  have H : (impl_units.l0 k 1 a0 0) = some r := h
  clear h
  have H' := Aside0.mk H
  clear H
  go_enter Try.func72, Try.ntmps72
  go_wp2
  go_loopg [3, 5] k (fun kq v3 v5 w' => ∃ (x3_1 : Int) (x5_1 : Int), v3 = .int .i64 x3_1 ∧ v5 = .int .i64 x5_1 ∧ Aside0 (impl_units.l0 kq x3_1 a0 x5_1 = some r) ∧ Aside0 (kq ≤ k) ∧ Drawn0 w w')
  case atStart => exact ⟨(1), (0), (by first | rfl | (simp; done) | (simp [*]; done) | (simp; exact (fun l : List UInt8 => (by cases l <;> rfl : l.isEmpty = !(l != []))) _)), (by first | rfl | (simp; done) | (simp [*]; done) | (simp; exact (fun l : List UInt8 => (by cases l <;> rfl : l.isEmpty = !(l != []))) _)), H', ⟨Nat.le_refl _⟩, by repeat (first | exact Drawn0.refl _ | apply Drawn0.step)⟩
  case round =>
    clear H'
    obtain ⟨x3_1, x5_1, rfl, rfl, HA, HK1, ⟨m1, rfl⟩⟩ := hrel
    cases gk with
    | zero => exact absurd HA.out (by simp [impl_units.l0])
    | succ k1 =>
      have H := HA.out
      clear HA
      simp only [impl_units.l0] at H
      by_cases c2 : x5_1 < a0
      · rw [if_pos c2] at H
        have c2b0 : decide (x5_1 < a0) = true := decide_eq_true c2
        clear c2
        have H' := Aside0.mk H
        clear H
        go_wp2
        go_roundg k1
        case measure => have := HK1.out; omega
        case rel => exact ⟨(wrap64 (x3_1 * 8)), (wrap64 (x5_1 + 1)), (by first | rfl | (simp; done) | (simp [*]; done) | (simp; exact (fun l : List UInt8 => (by cases l <;> rfl : l.isEmpty = !(l != []))) _)), (by first | rfl | (simp; done) | (simp [*]; done) | (simp; exact (fun l : List UInt8 => (by cases l <;> rfl : l.isEmpty = !(l != []))) _)), H', ⟨by have := HK1.out; omega⟩, by repeat (first | exact Drawn0.refl _ | apply Drawn0.step)⟩
      · rw [if_neg c2] at H
        have c2b0 : decide (x5_1 < a0) = false := decide_eq_false c2
        clear c2
        obtain rfl := Option.some.inj H
        go_wp2
        go_ret
        exact ⟨by first | rfl | (simp; done) | (simp [*]; done), by repeat (first | exact Drawn0.refl _ | apply Drawn0.step)⟩

/-! ### impl_fitsLevel: function 53, by hand -/
def impl_fitsLevel.f (k : Nat) (a0 : Int) (a1 : Int) (a2 : Int) : Option (Bool) := (impl_units.f k a2).bind fun p => (if p = 0 then (none) else (impl_in.f (wrap64 ((wrap64 (Int.tdiv a1 p)) - (wrap64 (Int.tdiv a0 p)))) 1 7))
theorem impl_fitsLevel.mono : ∀ a0 a1 a2 k, LeO (impl_fitsLevel.f k a0 a1 a2) (impl_fitsLevel.f (k + 1) a0 a1 a2) := by
  intro a0 a1 a2 k
  unfold impl_fitsLevel.f
  repeat' first
      | (with_reducible exact impl_units.mono _ _)
      | (with_reducible exact LeO.refl _)
      | (with_reducible exact LeO.none _)
      | (with_reducible refine LeO.ite ?_ ?_)
      | (with_reducible refine LeO.bind ?_ (fun _ => ?_))
set_option maxHeartbeats 8000000 in
set_option maxRecDepth 100000 in
theorem impl_fitsLevel.calls (k : Nat) (a0 : Int) (a1 : Int) (a2 : Int) (r : Bool) (w : World) (h : impl_fitsLevel.f k a0 a1 a2 = some r) :
    Calls Try.prog 53 #[.int .i64 a0, .int .i64 a1, .int .i64 a2] w fun e w' => e = .returned (.bool r) ∧ Drawn0 w w' := by
  unfold impl_fitsLevel.f at h
  obtain ⟨p, hp, h⟩ := Option.bind_eq_some_iff.mp h
  by_cases c5 : p = 0
  · rw [if_pos c5] at h
    exact absurd h (by simp)
  rw [if_neg c5] at h
  have c5b0 : (p == 0) = false := beq_eq_false_iff_ne.mpr c5
  have c5b1 : (p != 0) = true := bne_iff_ne.mpr c5
  have A4 := Aside0.mk hp
  have A8 := Aside0.mk h
  clear h hp
  go_enter Try.func53, Try.ntmps53
  go_wp2_with fail
  go_quiet (first | (go_at_call 72; (with_reducible refine (impl_units.calls k a2 p _ A4.out).mono ?_); rintro e w' ⟨rfl, ⟨nd, rfl⟩⟩; (try first | exact ⟨rfl, _, World.drewN_drewN _ _ _⟩ | exact ⟨rfl, _, Eq.trans (World.drewN_drewN _ _ _) (congrArg (World.drewN _) (Nat.add_assoc _ _ _))⟩)) | (go_at_call 55; (with_reducible refine (impl_in.calls (wrap64 ((wrap64 (Int.tdiv a1 p)) - (wrap64 (Int.tdiv a0 p)))) 1 7 r _ A8.out).mono ?_); rintro e w' ⟨rfl, ⟨nd, rfl⟩⟩; (try first | exact ⟨rfl, _, World.drewN_drewN _ _ _⟩ | exact ⟨rfl, _, Eq.trans (World.drewN_drewN _ _ _) (congrArg (World.drewN _) (Nat.add_assoc _ _ _))⟩)))
  go_wp2
  go_ret
  exact ⟨rfl, by repeat (first | exact Drawn0.refl _ | apply Drawn0.step)⟩

/-! ### impl_slotAt: function 54 -/
def impl_slotAt.f (k : Nat) (a0 : Int) (a1 : Int) : Option (Int) := (impl_units.f k a1).bind fun t175 => (if t175 = 0 then (none) else (some (wrap64 ((wrap64 (a1 * 8)) + (Int.tmod (wrap64 (Int.tdiv a0 t175)) 8)))))
theorem impl_slotAt.mono : ∀ a0 a1 k, LeO (impl_slotAt.f k a0 a1) (impl_slotAt.f (k + 1) a0 a1) := by
  intro a0 a1 k
  unfold impl_slotAt.f
  repeat' first
      | (with_reducible exact impl_units.mono _ _)
      | (with_reducible exact LeO.refl _)
      | (with_reducible exact LeO.none _)
      | (with_reducible refine LeO.ite ?_ ?_)
      | (with_reducible refine LeO.bind ?_ (fun _ => ?_))
      | exact impl_units.mono _ _
      | exact LeO.none _
      | refine LeO.ite ?_ ?_
      | refine LeO.bind ?_ (fun _ => ?_)
set_option maxHeartbeats 8000000 in
set_option maxRecDepth 100000 in
theorem impl_slotAt.calls (k : Nat) (a0 : Int) (a1 : Int) (r : Int) (w : World) (h : impl_slotAt.f k a0 a1 = some r) :
    Calls Try.prog 54 #[.int .i64 a0, .int .i64 a1] w fun e w' => e = .returned (.int .i64 r) ∧ Drawn0 w w' := by
  have H : ((impl_units.f k a1).bind fun t175 => (if t175 = 0 then (none) else (some (wrap64 ((wrap64 (a1 * 8)) + (Int.tmod (wrap64 (Int.tdiv a0 t175)) 8)))))) = some r := h
  clear h
  replace H := Option.bind_eq_some_iff.mp H
  obtain ⟨t175, A30, H⟩ := H
  replace H : (if t175 = 0 then (none) else (some (wrap64 ((wrap64 (a1 * 8)) + (Int.tmod (wrap64 (Int.tdiv a0 t175)) 8))))) = some r := H
  have A3 := Aside0.mk A30
  clear A30
  by_cases c4 : t175 = 0
  · rw [if_pos c4] at H
    exact absurd H (by simp)
  · rw [if_neg c4] at H
    have c4b0 : (t175 == 0) = false := beq_eq_false_iff_ne.mpr c4
    have c4b1 : (t175 != 0) = true := bne_iff_ne.mpr c4
    obtain rfl := Option.some.inj H
    go_enter Try.func54, Try.ntmps54
    go_wp2_with (first | ((with_reducible refine gate_callee (f := 72) rfl ?_); refine goesL_ (some 9) rfl rfl Try.func72 (by kernel_rfl) rfl #[.int .i64 a1] rfl (by (try simp only [List.map_toArray, List.map_cons, List.map_nil]); first | done | rfl | (simp only [List.length_drop, List.length_take]; rfl)) ?_; (with_reducible refine (impl_units.calls k a1 t175 _ A3.out).mono ?_); rintro e w' ⟨rfl, ⟨nd, rfl⟩⟩; refine ⟨_, rfl, ?_⟩))
    go_ret
    exact ⟨by first | rfl | (simp; done) | (simp [*]; done), by repeat (first | exact Drawn0.refl _ | apply Drawn0.step)⟩

end Go.Proofs.Ytgmjfdehladelaa.PFnExactDropTimer
