-- written by xprint.py (a program of this session's, over the kit's print): printed functions, and some by hand
import Derived.Test.YtpgegjbnnbkhiaaPFnExactScheduleOfx0
import Derived.Test.YtpgegjbnnbkhiaaPFnExactScheduleOfx6
import Derived.Test.YtpgegjbnnbkhiaaPFnExactScheduleOfx7
namespace Go.Proofs.Ytpgegjbnnbkhiaa.PFnExactScheduleOf
open Go.RowKit Go.Proofs.YtpgegjbnnbkhiaaW.PrintWords Go.Proofs.YtpgegjbnnbkhiaaW.PrintLast Go.Proofs.YtpgegjbnnbkhiaaW.PrintMore
attribute [local go_sem] max2_int min2_int max_two min_two max_three min_three max_four min_four   -- for this text's walks alone
set_option linter.unusedVariables false
set_option linter.unusedSimpArgs false

/-! ### impl_ScheduleOf: function 39, by hand -/
theorem R_block0 {α : Type} (d : Kd α) {e g base : Nat} {W : World} (h : W.heap[g]? = some (.cells #[] e (0, 0))) (hb : base ≤ g) : Kd.R d e W base (fun _ => True) (.slice (some ⟨g, 0, none⟩) 0 0) ([] : List α) :=
  ⟨fun _ _ => trivial, [], ⟨by simp, .inr ⟨g, 0, #[], rfl, hb, h, Nat.le_refl _, by simp [maxLen], by simp, by simp⟩⟩, Reps.none _ _⟩
theorem sch_rep (n : Nat) : (repRow n n).toArray = (encs (Value.int .i64) (List.replicate n (-1))).toArray := by unfold repRow encs; simp
theorem sch_made (n : Nat) : madeCells #[Value.int .i64 0] n = (encs (Value.int .i64) (List.replicate n 0)).toArray := by
  apply Array.toList_inj.1
  rw [rep_made_ints]
structure CS (gc gf gd na n : Nat) (free over : List Int) (w W : World) : Prop where
  bc : W.heap[gc]? = some (.cells #[.slice (some ⟨gf, 0, none⟩) na na, .slice (some ⟨gd, 0, none⟩) n n] 75 (0, 0))
  rf : W.heap[gf]? = some (.cells (encs (Value.int .i64) free).toArray 3 (0, 0))
  ro : W.heap[gd]? = some (.cells (encs (Value.int .i64) over).toArray 3 (0, 0))
  bel : Below w.heap.size w W
  gef : w.heap.size ≤ gf
  ged : w.heap.size ≤ gd
  ne : gf ≠ gd
theorem CS.below {gc gf gd na n : Nat} {free over : List Int} {w W W' : World} (h : CS gc gf gd na n free over w W) (hb : Below W.heap.size W W') : CS gc gf gd na n free over w W' := ⟨blk_below h.bc hb, blk_below h.rf hb, blk_below h.ro hb, below_then h.bel h.bel.size hb, h.gef, h.ged, h.ne⟩
theorem row_at {W : World} {g : Nat} {xs : List Int} (h : W.heap[g]? = some (.cells (encs (Value.int .i64) xs).toArray 3 (0, 0))) (k : Int) (h0 : 0 ≤ k) (h1 : k < xs.length) : W.cell? ⟨g, k.toNat, none⟩ = some (.int .i64 (rdOf 0 xs k)) := by
  rw [blk_cell h, List.getElem?_toArray]
  unfold encs rdOf
  rw [List.getElem?_map, List.getD_eq_getElem?_getD, List.getElem?_eq_getElem (by omega)]
  rfl
theorem sch_info66 : (Try.prog.info? 66).map (fun i => (i.zero, i.size, i.bytes)) = some (some (.agg #[.int .i64 0, .int .i64 0, .int .i64 0]), 3, 24) := by kernel_rfl
theorem CS.drew {gc gf gd na n : Nat} {free over : List Int} {w W : World} (h : CS gc gf gd na n free over w W) : CS gc gf gd na n free over w W.drew := ⟨h.bc, h.rf, h.ro, below_drew h.bel, h.gef, h.ged, h.ne⟩
theorem enc_set (xs : List Int) (k : Nat) (v : Int) : (encs (Value.int .i64) xs).toArray.setIfInBounds k (.int .i64 v) = (encs (Value.int .i64) (xs.set k v)).toArray := by
  unfold encs
  rw [List.map_set]
  simp
theorem blk_ne {W : World} {g g' : Nat} {cs cs' : Array Value} {t t' : TypeId} (h : W.heap[g]? = some (.cells cs t (0, 0))) (h' : W.heap[g']? = some (.cells cs' t' (0, 0))) (hn : t ≠ t') : g ≠ g' := by
  rintro rfl
  have h2 := Option.some.inj (h.symm.trans h')
  injection h2 with h3 h4
  exact hn h4
theorem CS.putf {gc gf gd na n : Nat} {free over : List Int} {w W : World} (h : CS gc gf gd na n free over w W) (k : Nat) (v : Int) : CS gc gf gd na n (free.set k v) over w (W.setCell ⟨gf, k, none⟩ (.int .i64 v)) :=
  ⟨(Go.Deep.blk_setCell_other W ⟨gf, k, none⟩ _ gc (blk_ne h.bc h.rf (by decide))).trans h.bc, by rw [blk_set h.rf k (.int .i64 v), enc_set], (Go.Deep.blk_setCell_other W ⟨gf, k, none⟩ _ gd h.ne.symm).trans h.ro, below_set h.bel h.gef, h.gef, h.ged, h.ne⟩
theorem CS.puto {gc gf gd na n : Nat} {free over : List Int} {w W : World} (h : CS gc gf gd na n free over w W) (k : Nat) (v : Int) : CS gc gf gd na n free (over.set k v) w (W.setCell ⟨gd, k, none⟩ (.int .i64 v)) :=
  ⟨(Go.Deep.blk_setCell_other W ⟨gd, k, none⟩ _ gc (blk_ne h.bc h.ro (by decide))).trans h.bc, (Go.Deep.blk_setCell_other W ⟨gd, k, none⟩ _ gf h.ne).trans h.rf, by rw [blk_set h.ro k (.int .i64 v), enc_set], below_set h.bel h.ged, h.gef, h.ged, h.ne⟩
theorem rdyGo_rng (over : List Int) (now : Int) : ∀ (l : List S53) (i : Nat), rdyGo over now l i < 0 ∨ ((i : Int) ≤ rdyGo over now l i ∧ rdyGo over now l i < (i : Int) + l.length)
  | [], i => .inl (by simp [rdyGo])
  | t :: ts, i => by
    unfold rdyGo
    split
    · right; simp only [List.length_cons]; omega
    · rcases rdyGo_rng over now ts (i + 1) with h | h
      · exact .inl h
      · right; simp only [List.length_cons]; omega
theorem CS.atf {gc gf gd na n : Nat} {free over : List Int} {w W : World} (h : CS gc gf gd na n free over w W) (k : Int) (h0 : 0 ≤ k) (h1 : k < free.length) : W.cell? ⟨gf, k.toNat, none⟩ = some (.int .i64 (rdOf 0 free k)) := row_at h.rf k h0 h1
theorem CS.ato {gc gf gd na n : Nat} {free over : List Int} {w W : World} (h : CS gc gf gd na n free over w W) (k : Int) (h0 : 0 ≤ k) (h1 : k < over.length) : W.cell? ⟨gd, k.toNat, none⟩ = some (.int .i64 (rdOf 0 over k)) := row_at h.ro k h0 h1
structure St where
  free : List Int
  over : List Int
  out : List S66
  e : Int
def scStep (l : List S53) (now : Int) (w : Nat) (st : St) : St := if now < rdOf 0 st.free (w : Int) then st else if 0 ≤ rdyGo st.over now l 0 then ⟨st.free.set w (now + (rd_T53 l (rdyGo st.over now l 0)).f0), st.over.set (rdyGo st.over now l 0).toNat (now + (rd_T53 l (rdyGo st.over now l 0)).f0), st.out ++ [⟨rdyGo st.over now l 0, (w : Int), now⟩], max st.e (now + (rd_T53 l (rdyGo st.over now l 0)).f0)⟩ else st
def scW (l : List S53) (now : Int) : Nat → Nat → St → St
  | 0, _, st => st
  | d + 1, w, st => scW l now d (w + 1) (scStep l now w st)
def scGo (l : List S53) (a : Nat) : Nat → Nat → St → Option (List S66 × Int × Bool)
  | 0, _, _ => none
  | k + 1, now, st => if st.out.length < l.length then (if now < 1000000 then scGo l a k (now + 1) (scW l (now : Int) a 0 st) else none) else some (st.out, st.e, true)
def schGood (l : List S53) : Prop := l.length ≤ 30 ∧ (∀ t ∈ l, ∀ n ∈ t.f1, 0 ≤ n ∧ n < (l.length : Int)) ∧ ∀ t ∈ l, 1 ≤ t.f0 ∧ t.f0 ≤ 100
instance (l : List S53) : Decidable (schGood l) := by unfold schGood; infer_instance
def impl_ScheduleOf.f (k : Nat) (l0 : List S53) (a1 : Int) : Option (List S66 × Int × Bool) := (impl_GoodPlan.f k l0).bind fun g => if g = true then (if 1 ≤ a1 ∧ a1 ≤ 8 then (if schGood l0 then scGo l0 a1.toNat k 0 ⟨List.replicate a1.toNat 0, List.replicate l0.length (-1), [], 0⟩ else none) else some ([], 0, false)) else some ([], 0, false)
theorem scGo_mono (l : List S53) (a : Nat) : ∀ (k now : Nat) (st : St), LeO (scGo l a k now st) (scGo l a (k + 1) now st)
  | 0, _, _ => fun r h => by simp [scGo] at h
  | k + 1, now, st => by
    intro r h
    simp only [scGo] at h
    unfold scGo
    by_cases c1 : st.out.length < l.length
    · rw [if_pos c1] at h ⊢
      by_cases c2 : now < 1000000
      · rw [if_pos c2] at h ⊢; exact scGo_mono l a k _ _ r h
      · rw [if_neg c2] at h; cases h
    · rw [if_neg c1] at h ⊢; exact h
theorem impl_ScheduleOf.mono : ∀ a0 a1 k, LeO (impl_ScheduleOf.f k a0 a1) (impl_ScheduleOf.f (k + 1) a0 a1) := by
  intro a0 a1 k r h
  unfold impl_ScheduleOf.f at h ⊢
  obtain ⟨g, hg, h⟩ := Option.bind_eq_some_iff.1 h
  rw [impl_GoodPlan.mono _ _ _ hg]
  simp only [Option.bind_some]
  by_cases c1 : g = true
  · rw [if_pos c1] at h ⊢
    by_cases c2 : 1 ≤ a1 ∧ a1 ≤ 8
    · rw [if_pos c2] at h ⊢
      by_cases c3 : schGood a0
      · rw [if_pos c3] at h ⊢; exact scGo_mono _ _ _ _ _ _ h
      · rw [if_neg c3] at h; cases h
    · rw [if_neg c2] at h ⊢; exact h
  · rw [if_neg c1] at h ⊢; exact h
theorem wo_eq (a : Int) : impl_workersOk.f a = some (decide (1 ≤ a ∧ a ≤ 8)) := by
  unfold impl_workersOk.f impl_in.f
  by_cases h : a ≥ 1
  · rw [if_pos h]; simp only [Option.bind_some, Option.some.injEq]; exact decide_eq_decide.2 ⟨fun x => ⟨h, x⟩, fun x => x.2⟩
  · rw [if_neg h]; simp only [Option.bind_some, Option.some.injEq]; exact (decide_eq_false (fun x => h x.1)).symm
set_option maxHeartbeats 8000000 in
set_option maxRecDepth 100000 in
theorem impl_ScheduleOf.calls (k : Nat) (A0 : Option Addr) (c0 : Nat) (l0 : List (S53)) (a1 : Int) (r1 : List S66) (r2 : Int) (r3 : Bool) (w : World) (hr0 : Kd.C k53 w A0 l0.length l0) (hc0 : l0.length ≤ c0) (h : impl_ScheduleOf.f k l0 a1 = some (r1, r2, r3)) :
    Calls Try.prog 39 #[.slice A0 l0.length c0, .int .i64 a1] w fun e w' => ∃ v0_ : Value, e = .returned (.tuple #[v0_, .int .i64 r2, .bool r3]) ∧ Kd.R k66 66 w' w.heap.size (fun _ => True) v0_ r1 ∧ Below w.heap.size w w' := by
  have hu29 := Try.underlying29
  have hu25 := Try.underlying25
  have hu53 := Try.underlying53
  have hu72 := Try.underlying72
  have hu75 := Try.underlying75
  have hu43 := Try.underlying43
  have hu66 := Try.underlying66
  unfold impl_ScheduleOf.f at h
  obtain ⟨g, hg, h⟩ := Option.bind_eq_some_iff.1 h
  have HG := Aside0.mk hg
  have H := Aside0.mk h
  have HR0 := Aside0.mk hr0
  have HC0 := Aside0.mk hc0
  clear hr0 h hg hc0
  go_enter Try.func39, Try.ntmps39
  go_wp2_with fail
  refine (impl_GoodPlan.calls k A0 c0 l0 g _ HR0.out HC0.out HG.out).mono ?_
  rintro e w1 ⟨rfl, hb⟩
  have HB := Aside0.mk hb
  clear hb HG
  have wrongs : True := trivial
  cases g with
  | false =>
    have h := H.out
    rw [if_neg (by decide)] at h
    simp only [Option.some.injEq, Prod.mk.injEq] at h
    obtain ⟨rfl, rfl, rfl⟩ := h
    go_wp2
    go_ret3
    exact ⟨_, rfl, Kd.R_nil _ _ _ _ _, by repeat (first | exact HB.out | apply pw_below_drewN | apply below_drew1 | apply below_drew)⟩
  | true =>
  have h := H.out
  rw [if_pos rfl] at h
  have H2 := Aside0.mk h
  clear h H
  go_wp2_with fail
  obtain ⟨b, hb⟩ : ∃ b, b = decide (1 ≤ a1 ∧ a1 ≤ 8) := ⟨_, rfl⟩
  refine (impl_workersOk.calls a1 b _ ((wo_eq a1).trans (congrArg some hb.symm))).mono ?_
  rintro e w2 ⟨rfl, hd⟩
  have HB2 := Aside0.mk (below_then HB.out HB.out.size hd.below)
  have HBB := Aside0.mk hb
  clear hd hb
  cases b with
  | false =>
    have h := H2.out
    rw [if_neg (of_decide_eq_false HBB.out.symm)] at h
    simp only [Option.some.injEq, Prod.mk.injEq] at h
    obtain ⟨rfl, rfl, rfl⟩ := h
    go_wp2
    go_ret3
    exact ⟨_, rfl, Kd.R_nil _ _ _ _ _, by repeat (first | exact HB2.out | apply pw_below_drewN | apply below_drew1 | apply below_drew)⟩
  | true =>
  have ha := of_decide_eq_true HBB.out.symm
  have h := H2.out
  rw [if_pos ha] at h
  split at h
  case isFalse => cases h
  rename_i hgood
  have HGD := Aside0.mk hgood
  have HA := Aside0.mk ha
  have H3 := Aside0.mk h
  clear h hgood H2 HB
  obtain ⟨na, rfl⟩ : ∃ n : Nat, a1 = (n : Int) := ⟨a1.toNat, by omega⟩
  rw [Int.toNat_natCast] at H3
  have hmk := print_make_of (P := Try.prog) 29 3 (.int .i64 0) 8 hu29 rfl rfl (by decide) na (by omega)
  clear ha
  go_wp2_with fail
  have HB4 := Aside0.mk (show Below w.heap.size w (World.drew w2) from below_drew HB2.out)
  go_cut [7, 8, 9] from 21 to 29 (fun v7 v8 v9 wx => ∃ gc gf gd : Nat, v7 = .pointer (some ⟨gc, 0, none⟩) ∧ v9 = .int .i64 0 ∧ Aside0 (CS gc gf gd na l0.length (List.replicate na 0) (List.replicate l0.length (-1)) w wx) ∧ Aside0 (Kd.R k66 66 wx w.heap.size (fun _ => True) v8 []))
  case first =>
    refine start_ (n := 12) (S := fun _ => True) (ds := []) #[false, false, false, false, false, false, false, false, false, false, false, false] (by kernel_rfl) rfl rfl trivial (fun _ => ?_)
    refine pure_ (i := 0) (N := some 21) (v := ?_) (a' := ?_) #[true, false, false, false, false, false, false, false, false, false, false, false] rfl rfl (by kernel_rfl) (fun _ _ _ h => h) (Or.inl ⟨by rfl, ?_⟩) ?_ ?_
    rotate_left
    · intro w'
      go_simp
      with_reducible rfl
    rotate_left
    · simp only [Act.put, List.setIfInBounds_toArray, List.set_cons_zero, List.set_cons_succ, i64_w, i32_w]
      rfl
    refine pure_ (i := 3) (N := some 24) (v := ?_) (a' := ?_) #[true, false, false, true, false, false, false, false, false, false, false, false] rfl rfl (by kernel_rfl) (fun _ _ _ h => h) (Or.inl ⟨by rfl, ?_⟩) ?_ ?_
    rotate_left
    · intro w'
      go_simp
      with_reducible rfl
    rotate_left
    · simp only [Act.put, List.setIfInBounds_toArray, List.set_cons_zero, List.set_cons_succ, i64_w, i32_w]
      rfl
    refine pure_ (i := 4) (N := some 25) (v := ?_) (a' := ?_) #[true, false, false, true, true, false, false, false, false, false, false, false] rfl rfl (by kernel_rfl) (fun _ _ _ h => h) (Or.inl ⟨by rfl, ?_⟩) ?_ ?_
    rotate_left
    · intro w'
      go_simp
      with_reducible rfl
    rotate_left
    · simp only [Act.put, List.setIfInBounds_toArray, List.set_cons_zero, List.set_cons_succ, i64_w, i32_w]
      rfl
    refine join_ (σ := Nat × Nat × Nat × Nat × Nat) 2 #[true, true, true, true, true, true, true, true, true, true, false, false] (fun s => [(22, .slice (some ⟨s.1, 0, none⟩) na na), (23, .slice (some ⟨s.2.1, 0, none⟩) 1 1), (26, .slice (some ⟨s.2.2.1, 0, none⟩) l0.length l0.length), (27, .agg #[.slice (some ⟨s.1, 0, none⟩) na na, .slice (some ⟨s.2.2.1, 0, none⟩) l0.length l0.length]), (28, .pointer (some ⟨s.2.2.2.2, 0, none⟩)), (7, .pointer (some ⟨s.2.2.2.2, 0, none⟩)), (29, .slice (some ⟨s.2.2.2.1, 0, none⟩) 0 0)]) (fun s w' => (Below w.heap.size w w') ∧ (w'.heap[s.1]? = some (.cells (madeCells #[.int .i64 0] na) 3 (0, 0)) ∧ w.heap.size ≤ s.1) ∧ (True) ∧ (w'.heap[s.2.2.1]? = some (.cells (repRow l0.length l0.length).toArray 3 (0, 0)) ∧ w.heap.size ≤ s.2.2.1) ∧ (s.1 ≠ s.2.2.1) ∧ (w'.heap[s.2.2.2.1]? = some (.cells #[] 66 (0, 0)) ∧ w.heap.size ≤ s.2.2.2.1) ∧ (w'.heap[s.2.2.2.2]? = some (.cells #[.slice (some ⟨s.1, 0, none⟩) na na, .slice (some ⟨s.2.2.1, 0, none⟩) l0.length l0.length] 75 (0, 0)))) ?j1213 (fun J1213 => ?_)
    rotate_left
    simp only [putAll, Act.put, List.setIfInBounds_toArray, List.set_cons_zero, List.set_cons_succ] at J1213
    rotate_left
    case j1213 =>
      rintro ⟨gf, gx, gd, ge, gc⟩ W ⟨hB, hA, -, hC, hN, hE, hD⟩
      dsimp only at hB hA hC hN hE hD
      refine norm_ (a' := ?_) (by simp only [putAll, Act.put, List.setIfInBounds_toArray, List.set_cons_zero, List.set_cons_succ]; rfl) ?_
      refine pure_ (i := 10) (N := some 8) (v := ?_) (a' := ?_) #[true, true, true, true, true, true, true, true, true, true, true, false] rfl rfl (by kernel_rfl) (fun _ _ _ h => h) (Or.inl ⟨by rfl, ?_⟩) ?_ ?_
      rotate_left
      · intro w'
        go_simp
        with_reducible rfl
      rotate_left
      · simp only [Act.put, List.setIfInBounds_toArray, List.set_cons_zero, List.set_cons_succ, i64_w, i32_w]
        rfl
      refine pure_ (i := 11) (N := some 9) (v := ?_) (a' := ?_) #[true, true, true, true, true, true, true, true, true, true, true, true] rfl rfl (by kernel_rfl) (fun _ _ _ h => h) (Or.inl ⟨by rfl, ?_⟩) ?_ ?_
      rotate_left
      · intro w'
        go_simp
        with_reducible rfl
      rotate_left
      · simp only [Act.put, List.setIfInBounds_toArray, List.set_cons_zero, List.set_cons_succ, i64_w, i32_w]
        rfl
      refine done_ (by kernel_rfl) ?_
      try go_wp2_with fail
      go_meet
      exact ⟨gc, gf, gd, rfl, rfl, ⟨⟨hD, sch_made na ▸ hA.1, sch_rep l0.length ▸ hC.1, hB, hA.2, hC.2, hN⟩⟩, ⟨R_block0 k66 hE.1 hE.2⟩⟩
    refine join_ (σ := Nat × Nat × Nat × Nat × Nat) 3 #[true, true, true, true, true, true, true, true, true, false, false, false] (fun s => [(22, .slice (some ⟨s.1, 0, none⟩) na na), (23, .slice (some ⟨s.2.1, 0, none⟩) 1 1), (26, .slice (some ⟨s.2.2.1, 0, none⟩) l0.length l0.length), (27, .agg #[.slice (some ⟨s.1, 0, none⟩) na na, .slice (some ⟨s.2.2.1, 0, none⟩) l0.length l0.length]), (28, .pointer (some ⟨s.2.2.2.2, 0, none⟩)), (29, .slice (some ⟨s.2.2.2.1, 0, none⟩) 0 0)]) (fun s w' => (Below w.heap.size w w') ∧ (w'.heap[s.1]? = some (.cells (madeCells #[.int .i64 0] na) 3 (0, 0)) ∧ w.heap.size ≤ s.1) ∧ (True) ∧ (w'.heap[s.2.2.1]? = some (.cells (repRow l0.length l0.length).toArray 3 (0, 0)) ∧ w.heap.size ≤ s.2.2.1) ∧ (s.1 ≠ s.2.2.1) ∧ (w'.heap[s.2.2.2.1]? = some (.cells #[] 66 (0, 0)) ∧ w.heap.size ≤ s.2.2.2.1) ∧ (w'.heap[s.2.2.2.2]? = some (.cells #[.slice (some ⟨s.1, 0, none⟩) na na, .slice (some ⟨s.2.2.1, 0, none⟩) l0.length l0.length] 75 (0, 0)))) ?j1211 (fun J1211 => ?_)
    rotate_left
    simp only [putAll, Act.put, List.setIfInBounds_toArray, List.set_cons_zero, List.set_cons_succ] at J1211
    rotate_left
    case j1211 =>
      rintro ⟨gf, gx, gd, ge, gc⟩ W ⟨hB, hA, -, hC, hN, hE, hD⟩
      dsimp only at hB hA hC hN hE hD
      refine norm_ (a' := ?_) (by simp only [putAll, Act.put, List.setIfInBounds_toArray, List.set_cons_zero, List.set_cons_succ]; rfl) ?_
      refine pure_ (i := 9) (N := some 7) (v := ?_) (a' := ?_) #[true, true, true, true, true, true, true, true, true, true, false, false] rfl rfl (by kernel_rfl) (fun _ _ _ h => h) (Or.inl ⟨by rfl, ?_⟩) ?_ ?_
      rotate_left
      · intro w'
        go_simp
        with_reducible rfl
      rotate_left
      · simp only [Act.put, List.setIfInBounds_toArray, List.set_cons_zero, List.set_cons_succ, i64_w, i32_w]
        rfl
      exact J1213 (gf, gx, gd, ge, gc) _ ⟨hB, hA, trivial, hC, hN, hE, hD⟩
    refine join_ (σ := Nat × Nat × Nat × Nat × Nat) 4 #[true, true, true, true, true, true, true, true, false, false, false, false] (fun s => [(22, .slice (some ⟨s.1, 0, none⟩) na na), (23, .slice (some ⟨s.2.1, 0, none⟩) 1 1), (26, .slice (some ⟨s.2.2.1, 0, none⟩) l0.length l0.length), (27, .agg #[.slice (some ⟨s.1, 0, none⟩) na na, .slice (some ⟨s.2.2.1, 0, none⟩) l0.length l0.length]), (28, .pointer (some ⟨s.2.2.2.2, 0, none⟩))]) (fun s w' => (Below w.heap.size w w') ∧ (w'.heap[s.1]? = some (.cells (madeCells #[.int .i64 0] na) 3 (0, 0)) ∧ w.heap.size ≤ s.1) ∧ (True) ∧ (w'.heap[s.2.2.1]? = some (.cells (repRow l0.length l0.length).toArray 3 (0, 0)) ∧ w.heap.size ≤ s.2.2.1) ∧ (s.1 ≠ s.2.2.1) ∧ (True) ∧ (w'.heap[s.2.2.2.2]? = some (.cells #[.slice (some ⟨s.1, 0, none⟩) na na, .slice (some ⟨s.2.2.1, 0, none⟩) l0.length l0.length] 75 (0, 0)))) ?j1201 (fun J1201 => ?_)
    rotate_left
    simp only [putAll, Act.put, List.setIfInBounds_toArray, List.set_cons_zero, List.set_cons_succ] at J1201
    rotate_left
    case j1201 =>
      rintro ⟨gf, gx, gd, ge, gc⟩ W ⟨hB, hA, -, hC, hN, -, hD⟩
      dsimp only at hB hA hC hN hD
      refine norm_ (a' := ?_) (by simp only [putAll, Act.put, List.setIfInBounds_toArray, List.set_cons_zero, List.set_cons_succ]; rfl) ?_
      refine pure_ (i := 9) (N := some 7) (v := ?_) (a' := ?_) #[true, true, true, true, true, true, true, true, false, true, false, false] rfl rfl (by kernel_rfl) (fun _ _ _ h => h) (Or.inl ⟨by rfl, ?_⟩) ?_ ?_
      rotate_left
      · intro w'
        go_simp
        with_reducible rfl
      rotate_left
      · simp only [Act.put, List.setIfInBounds_toArray, List.set_cons_zero, List.set_cons_succ, i64_w, i32_w]
        rfl
      refine one_ (i := 8) (N := some 29) #[true, true, true, true, true, true, true, true, true, true, false, false] rfl rfl (by kernel_rfl) (by decide) (fun K hK => ?_)
      refine value_ (w1 := W.alloc (.cells #[] 66)) (v := .slice (some ⟨W.heap.size, 0, none⟩) 0 0) (by rfl) rfl (by first | (go_simp; done) | (go_simp; rfl)) ?_
      refine hK.out _ _ trivial (fun _ => ?_)
      refine norm_ (a' := ?_) (by simp only [Act.put, List.setIfInBounds_toArray, List.set_cons_zero, List.set_cons_succ]; rfl) ?_
      exact J1213 (gf, gx, gd, W.heap.size, gc) _ ⟨(below_then hB hB.size (below_alloc (Below.refl _ _) _)), ⟨blk_below hA.1 (below_alloc (Below.refl _ _) _), hA.2⟩, trivial, ⟨blk_below hC.1 (below_alloc (Below.refl _ _) _), hC.2⟩, hN, ⟨heap_alloc_new _ _, hB.size⟩, blk_below hD (below_alloc (Below.refl _ _) _)⟩
    refine join_ (σ := Nat × Nat × Nat × Nat × Nat) 4 #[true, true, true, true, true, true, true, false, true, false, false, false] (fun s => [(22, .slice (some ⟨s.1, 0, none⟩) na na), (23, .slice (some ⟨s.2.1, 0, none⟩) 1 1), (26, .slice (some ⟨s.2.2.1, 0, none⟩) l0.length l0.length), (27, .agg #[.slice (some ⟨s.1, 0, none⟩) na na, .slice (some ⟨s.2.2.1, 0, none⟩) l0.length l0.length]), (29, .slice (some ⟨s.2.2.2.1, 0, none⟩) 0 0)]) (fun s w' => (Below w.heap.size w w') ∧ (w'.heap[s.1]? = some (.cells (madeCells #[.int .i64 0] na) 3 (0, 0)) ∧ w.heap.size ≤ s.1) ∧ (True) ∧ (w'.heap[s.2.2.1]? = some (.cells (repRow l0.length l0.length).toArray 3 (0, 0)) ∧ w.heap.size ≤ s.2.2.1) ∧ (s.1 ≠ s.2.2.1) ∧ (w'.heap[s.2.2.2.1]? = some (.cells #[] 66 (0, 0)) ∧ w.heap.size ≤ s.2.2.2.1) ∧ (True)) ?j1212 (fun J1212 => ?_)
    rotate_left
    simp only [putAll, Act.put, List.setIfInBounds_toArray, List.set_cons_zero, List.set_cons_succ] at J1212
    rotate_left
    case j1212 =>
      rintro ⟨gf, gx, gd, ge, gc⟩ W ⟨hB, hA, -, hC, hN, hE, -⟩
      dsimp only at hB hA hC hN hE
      refine norm_ (a' := ?_) (by simp only [putAll, Act.put, List.setIfInBounds_toArray, List.set_cons_zero, List.set_cons_succ]; rfl) ?_
      refine one_ (i := 7) (N := some 28) #[true, true, true, true, true, true, true, true, true, false, false, false] rfl rfl (by kernel_rfl) (by decide) (fun K hK => ?_)
      refine value_ (w1 := W.alloc (.cells #[.slice (some ⟨gf, 0, none⟩) na na, .slice (some ⟨gd, 0, none⟩) l0.length l0.length] 75)) (v := .pointer (some ⟨W.heap.size, 0, none⟩)) (by rfl) rfl (by first | (go_simp; done) | (go_simp; rfl)) ?_
      refine hK.out _ _ trivial (fun _ => ?_)
      refine norm_ (a' := ?_) (by simp only [Act.put, List.setIfInBounds_toArray, List.set_cons_zero, List.set_cons_succ]; rfl) ?_
      exact J1211 (gf, gx, gd, ge, W.heap.size) _ ⟨(below_then hB hB.size (below_alloc (Below.refl _ _) _)), ⟨blk_below hA.1 (below_alloc (Below.refl _ _) _), hA.2⟩, trivial, ⟨blk_below hC.1 (below_alloc (Below.refl _ _) _), hC.2⟩, hN, ⟨blk_below hE.1 (below_alloc (Below.refl _ _) _), hE.2⟩, heap_alloc_new _ _⟩
    refine join_ (σ := Nat × Nat × Nat × Nat × Nat) 5 #[true, true, true, true, true, true, false, false, true, false, false, false] (fun s => [(22, .slice (some ⟨s.1, 0, none⟩) na na), (23, .slice (some ⟨s.2.1, 0, none⟩) 1 1), (26, .slice (some ⟨s.2.2.1, 0, none⟩) l0.length l0.length), (29, .slice (some ⟨s.2.2.2.1, 0, none⟩) 0 0)]) (fun s w' => (Below w.heap.size w w') ∧ (w'.heap[s.1]? = some (.cells (madeCells #[.int .i64 0] na) 3 (0, 0)) ∧ w.heap.size ≤ s.1) ∧ (True) ∧ (w'.heap[s.2.2.1]? = some (.cells (repRow l0.length l0.length).toArray 3 (0, 0)) ∧ w.heap.size ≤ s.2.2.1) ∧ (s.1 ≠ s.2.2.1) ∧ (w'.heap[s.2.2.2.1]? = some (.cells #[] 66 (0, 0)) ∧ w.heap.size ≤ s.2.2.2.1) ∧ (True)) ?j1210 (fun J1210 => ?_)
    rotate_left
    simp only [putAll, Act.put, List.setIfInBounds_toArray, List.set_cons_zero, List.set_cons_succ] at J1210
    rotate_left
    case j1210 =>
      rintro ⟨gf, gx, gd, ge, gc⟩ W ⟨hB, hA, -, hC, hN, hE, -⟩
      dsimp only at hB hA hC hN hE
      refine norm_ (a' := ?_) (by simp only [putAll, Act.put, List.setIfInBounds_toArray, List.set_cons_zero, List.set_cons_succ]; rfl) ?_
      refine pure_ (i := 6) (N := some 27) (v := ?_) (a' := ?_) #[true, true, true, true, true, true, true, false, true, false, false, false] rfl rfl (by kernel_rfl) (fun _ _ _ h => h) (Or.inl ⟨by rfl, ?_⟩) ?_ ?_
      rotate_left
      · intro w'
        go_simp
        with_reducible rfl
      rotate_left
      · simp only [Act.put, List.setIfInBounds_toArray, List.set_cons_zero, List.set_cons_succ, i64_w, i32_w]
        rfl
      exact J1212 (gf, gx, gd, ge, gc) _ ⟨hB, hA, trivial, hC, hN, hE, trivial⟩
    refine join_ (σ := Nat × Nat × Nat × Nat × Nat) 6 #[true, false, true, true, true, true, false, false, true, false, false, false] (fun s => [(23, .slice (some ⟨s.2.1, 0, none⟩) 1 1), (26, .slice (some ⟨s.2.2.1, 0, none⟩) l0.length l0.length), (29, .slice (some ⟨s.2.2.2.1, 0, none⟩) 0 0)]) (fun s w' => (Below w.heap.size w w') ∧ (True) ∧ (True) ∧ (w'.heap[s.2.2.1]? = some (.cells (repRow l0.length l0.length).toArray 3 (0, 0)) ∧ w.heap.size ≤ s.2.2.1) ∧ (True) ∧ (w'.heap[s.2.2.2.1]? = some (.cells #[] 66 (0, 0)) ∧ w.heap.size ≤ s.2.2.2.1) ∧ (True)) ?j0210 (fun J0210 => ?_)
    rotate_left
    simp only [putAll, Act.put, List.setIfInBounds_toArray, List.set_cons_zero, List.set_cons_succ] at J0210
    rotate_left
    case j0210 =>
      rintro ⟨gf, gx, gd, ge, gc⟩ W ⟨hB, -, -, hC, -, hE, -⟩
      dsimp only at hB hC hE
      refine norm_ (a' := ?_) (by simp only [putAll, Act.put, List.setIfInBounds_toArray, List.set_cons_zero, List.set_cons_succ]; rfl) ?_
      refine one_ (i := 1) (N := some 22) #[true, true, true, true, true, true, false, false, true, false, false, false] rfl rfl (by kernel_rfl) (by decide) (fun K hK => ?_)
      refine value_ (w1 := W.alloc (.cells (madeCells #[.int .i64 0] na) 3)) (v := .slice (some ⟨W.heap.size, 0, none⟩) na na) (by rfl) rfl (by first | (go_simp; done) | (go_simp; rfl)) ?_
      refine hK.out _ _ trivial (fun _ => ?_)
      refine norm_ (a' := ?_) (by simp only [Act.put, List.setIfInBounds_toArray, List.set_cons_zero, List.set_cons_succ]; rfl) ?_
      exact J1210 (W.heap.size, gx, gd, ge, gc) _ ⟨(below_then hB hB.size (below_alloc (Below.refl _ _) _)), ⟨heap_alloc_new _ _, hB.size⟩, trivial, ⟨blk_below hC.1 (below_alloc (Below.refl _ _) _), hC.2⟩, (Nat.ne_of_gt (blk_lt hC.1)), ⟨blk_below hE.1 (below_alloc (Below.refl _ _) _), hE.2⟩, trivial⟩
    refine join_ (σ := Nat × Nat × Nat × Nat × Nat) 6 #[true, true, true, true, true, false, false, false, true, false, false, false] (fun s => [(22, .slice (some ⟨s.1, 0, none⟩) na na), (23, .slice (some ⟨s.2.1, 0, none⟩) 1 1), (29, .slice (some ⟨s.2.2.2.1, 0, none⟩) 0 0)]) (fun s w' => (Below w.heap.size w w') ∧ (w'.heap[s.1]? = some (.cells (madeCells #[.int .i64 0] na) 3 (0, 0)) ∧ w.heap.size ≤ s.1) ∧ (w'.heap[s.2.1]? = some (.cells #[.int .i64 (-1)] 3 (0, 0))) ∧ (True) ∧ (True) ∧ (w'.heap[s.2.2.2.1]? = some (.cells #[] 66 (0, 0)) ∧ w.heap.size ≤ s.2.2.2.1) ∧ (True)) ?j1110 (fun J1110 => ?_)
    rotate_left
    simp only [putAll, Act.put, List.setIfInBounds_toArray, List.set_cons_zero, List.set_cons_succ] at J1110
    rotate_left
    case j1110 =>
      rintro ⟨gf, gx, gd, ge, gc⟩ W ⟨hB, hA, hBx, -, -, hE, -⟩
      dsimp only at hB hA hBx hE
      refine norm_ (a' := ?_) (by simp only [putAll, Act.put, List.setIfInBounds_toArray, List.set_cons_zero, List.set_cons_succ]; rfl) ?_
      refine one_ (i := 5) (N := some 26) #[true, true, true, true, true, true, false, false, true, false, false, false] rfl rfl (by kernel_rfl) (by decide) (fun K hK => ?_)
      refine goes_ Try.func62 (by kernel_rfl) rfl #[.slice (some ⟨gx, 0, none⟩) 1 1, .int .i64 (l0.length : Int)] (by rfl) rfl rfl (by simp only [List.map_toArray, List.map_cons, List.map_nil]; rfl) ?_
      refine (slices_Repeat_one gx 1 l0.length HGD.out.1 W hBx).mono ?_
      rintro e w' ⟨gd', rfl, hgd, hrow, hb⟩
      refine ⟨_, rfl, hK.out _ _ trivial (fun _ => ?_)⟩
      refine norm_ (a' := ?_) (by simp only [Act.put, List.setIfInBounds_toArray, List.set_cons_zero, List.set_cons_succ]; rfl) ?_
      exact J1210 (gf, gx, gd', ge, gc) _ ⟨(below_then hB hB.size hb), ⟨blk_below hA.1 hb, hA.2⟩, trivial, ⟨hrow, Nat.le_trans hB.size hgd⟩, (Nat.ne_of_lt (Nat.lt_of_lt_of_le (blk_lt hA.1) hgd)), ⟨blk_below hE.1 hb, hE.2⟩, trivial⟩
    refine join_ (σ := Nat × Nat × Nat × Nat × Nat) 6 #[true, true, true, true, true, true, false, false, false, false, false, false] (fun s => [(22, .slice (some ⟨s.1, 0, none⟩) na na), (23, .slice (some ⟨s.2.1, 0, none⟩) 1 1), (26, .slice (some ⟨s.2.2.1, 0, none⟩) l0.length l0.length)]) (fun s w' => (Below w.heap.size w w') ∧ (w'.heap[s.1]? = some (.cells (madeCells #[.int .i64 0] na) 3 (0, 0)) ∧ w.heap.size ≤ s.1) ∧ (True) ∧ (w'.heap[s.2.2.1]? = some (.cells (repRow l0.length l0.length).toArray 3 (0, 0)) ∧ w.heap.size ≤ s.2.2.1) ∧ (s.1 ≠ s.2.2.1) ∧ (True) ∧ (True)) ?j1200 (fun J1200 => ?_)
    rotate_left
    simp only [putAll, Act.put, List.setIfInBounds_toArray, List.set_cons_zero, List.set_cons_succ] at J1200
    rotate_left
    case j1200 =>
      rintro ⟨gf, gx, gd, ge, gc⟩ W ⟨hB, hA, -, hC, hN, -, -⟩
      dsimp only at hB hA hC hN
      refine norm_ (a' := ?_) (by simp only [putAll, Act.put, List.setIfInBounds_toArray, List.set_cons_zero, List.set_cons_succ]; rfl) ?_
      refine pure_ (i := 6) (N := some 27) (v := ?_) (a' := ?_) #[true, true, true, true, true, true, true, false, false, false, false, false] rfl rfl (by kernel_rfl) (fun _ _ _ h => h) (Or.inl ⟨by rfl, ?_⟩) ?_ ?_
      rotate_left
      · intro w'
        go_simp
        with_reducible rfl
      rotate_left
      · simp only [Act.put, List.setIfInBounds_toArray, List.set_cons_zero, List.set_cons_succ, i64_w, i32_w]
        rfl
      refine two_ (i := 7) (Ni := some 28) (j := 8) (Nj := some 29) #[true, true, true, true, true, true, true, true, false, false, false, false] #[true, true, true, true, true, true, true, false, true, false, false, false] rfl rfl rfl rfl (by kernel_rfl) (by decide) (by decide) (fun K hK => ?_) (fun K hK => ?_)
      · refine value_ (w1 := W.alloc (.cells #[.slice (some ⟨gf, 0, none⟩) na na, .slice (some ⟨gd, 0, none⟩) l0.length l0.length] 75)) (v := .pointer (some ⟨W.heap.size, 0, none⟩)) (by rfl) rfl (by first | (go_simp; done) | (go_simp; rfl)) ?_
        refine hK.out _ _ trivial (fun _ => ?_)
        refine norm_ (a' := ?_) (by simp only [Act.put, List.setIfInBounds_toArray, List.set_cons_zero, List.set_cons_succ]; rfl) ?_
        exact J1201 (gf, gx, gd, ge, W.heap.size) _ ⟨(below_then hB hB.size (below_alloc (Below.refl _ _) _)), ⟨blk_below hA.1 (below_alloc (Below.refl _ _) _), hA.2⟩, trivial, ⟨blk_below hC.1 (below_alloc (Below.refl _ _) _), hC.2⟩, hN, trivial, heap_alloc_new _ _⟩
      · refine value_ (w1 := W.alloc (.cells #[] 66)) (v := .slice (some ⟨W.heap.size, 0, none⟩) 0 0) (by rfl) rfl (by first | (go_simp; done) | (go_simp; rfl)) ?_
        refine hK.out _ _ trivial (fun _ => ?_)
        refine norm_ (a' := ?_) (by simp only [Act.put, List.setIfInBounds_toArray, List.set_cons_zero, List.set_cons_succ]; rfl) ?_
        exact J1212 (gf, gx, gd, W.heap.size, gc) _ ⟨(below_then hB hB.size (below_alloc (Below.refl _ _) _)), ⟨blk_below hA.1 (below_alloc (Below.refl _ _) _), hA.2⟩, trivial, ⟨blk_below hC.1 (below_alloc (Below.refl _ _) _), hC.2⟩, hN, ⟨heap_alloc_new _ _, hB.size⟩, trivial⟩
    refine join_ (σ := Nat × Nat × Nat × Nat × Nat) 7 #[true, false, true, true, true, false, false, false, true, false, false, false] (fun s => [(23, .slice (some ⟨s.2.1, 0, none⟩) 1 1), (29, .slice (some ⟨s.2.2.2.1, 0, none⟩) 0 0)]) (fun s w' => (Below w.heap.size w w') ∧ (True) ∧ (w'.heap[s.2.1]? = some (.cells #[.int .i64 (-1)] 3 (0, 0))) ∧ (True) ∧ (True) ∧ (w'.heap[s.2.2.2.1]? = some (.cells #[] 66 (0, 0)) ∧ w.heap.size ≤ s.2.2.2.1) ∧ (True)) ?j0110 (fun J0110 => ?_)
    rotate_left
    simp only [putAll, Act.put, List.setIfInBounds_toArray, List.set_cons_zero, List.set_cons_succ] at J0110
    rotate_left
    case j0110 =>
      rintro ⟨gf, gx, gd, ge, gc⟩ W ⟨hB, -, hBx, -, -, hE, -⟩
      dsimp only at hB hBx hE
      refine norm_ (a' := ?_) (by simp only [putAll, Act.put, List.setIfInBounds_toArray, List.set_cons_zero, List.set_cons_succ]; rfl) ?_
      refine two_ (i := 1) (Ni := some 22) (j := 5) (Nj := some 26) #[true, true, true, true, true, false, false, false, true, false, false, false] #[true, false, true, true, true, true, false, false, true, false, false, false] rfl rfl rfl rfl (by kernel_rfl) (by decide) (by decide) (fun K hK => ?_) (fun K hK => ?_)
      · refine value_ (w1 := W.alloc (.cells (madeCells #[.int .i64 0] na) 3)) (v := .slice (some ⟨W.heap.size, 0, none⟩) na na) (by rfl) rfl (by first | (go_simp; done) | (go_simp; rfl)) ?_
        refine hK.out _ _ trivial (fun _ => ?_)
        refine norm_ (a' := ?_) (by simp only [Act.put, List.setIfInBounds_toArray, List.set_cons_zero, List.set_cons_succ]; rfl) ?_
        exact J1110 (W.heap.size, gx, gd, ge, gc) _ ⟨(below_then hB hB.size (below_alloc (Below.refl _ _) _)), ⟨heap_alloc_new _ _, hB.size⟩, blk_below hBx (below_alloc (Below.refl _ _) _), trivial, trivial, ⟨blk_below hE.1 (below_alloc (Below.refl _ _) _), hE.2⟩, trivial⟩
      · refine goes_ Try.func62 (by kernel_rfl) rfl #[.slice (some ⟨gx, 0, none⟩) 1 1, .int .i64 (l0.length : Int)] (by rfl) rfl rfl (by simp only [List.map_toArray, List.map_cons, List.map_nil]; rfl) ?_
        refine (slices_Repeat_one gx 1 l0.length HGD.out.1 W hBx).mono ?_
        rintro e w' ⟨gd', rfl, hgd, hrow, hb⟩
        refine ⟨_, rfl, hK.out _ _ trivial (fun _ => ?_)⟩
        refine norm_ (a' := ?_) (by simp only [Act.put, List.setIfInBounds_toArray, List.set_cons_zero, List.set_cons_succ]; rfl) ?_
        exact J0210 (gf, gx, gd', ge, gc) _ ⟨(below_then hB hB.size hb), trivial, trivial, ⟨hrow, Nat.le_trans hB.size hgd⟩, trivial, ⟨blk_below hE.1 hb, hE.2⟩, trivial⟩
    refine join_ (σ := Nat × Nat × Nat × Nat × Nat) 7 #[true, false, true, true, true, true, false, false, false, false, false, false] (fun s => [(23, .slice (some ⟨s.2.1, 0, none⟩) 1 1), (26, .slice (some ⟨s.2.2.1, 0, none⟩) l0.length l0.length)]) (fun s w' => (Below w.heap.size w w') ∧ (True) ∧ (True) ∧ (w'.heap[s.2.2.1]? = some (.cells (repRow l0.length l0.length).toArray 3 (0, 0)) ∧ w.heap.size ≤ s.2.2.1) ∧ (True) ∧ (True) ∧ (True)) ?j0200 (fun J0200 => ?_)
    rotate_left
    simp only [putAll, Act.put, List.setIfInBounds_toArray, List.set_cons_zero, List.set_cons_succ] at J0200
    rotate_left
    case j0200 =>
      rintro ⟨gf, gx, gd, ge, gc⟩ W ⟨hB, -, -, hC, -, -, -⟩
      dsimp only at hB hC
      refine norm_ (a' := ?_) (by simp only [putAll, Act.put, List.setIfInBounds_toArray, List.set_cons_zero, List.set_cons_succ]; rfl) ?_
      refine two_ (i := 1) (Ni := some 22) (j := 8) (Nj := some 29) #[true, true, true, true, true, true, false, false, false, false, false, false] #[true, false, true, true, true, true, false, false, true, false, false, false] rfl rfl rfl rfl (by kernel_rfl) (by decide) (by decide) (fun K hK => ?_) (fun K hK => ?_)
      · refine value_ (w1 := W.alloc (.cells (madeCells #[.int .i64 0] na) 3)) (v := .slice (some ⟨W.heap.size, 0, none⟩) na na) (by rfl) rfl (by first | (go_simp; done) | (go_simp; rfl)) ?_
        refine hK.out _ _ trivial (fun _ => ?_)
        refine norm_ (a' := ?_) (by simp only [Act.put, List.setIfInBounds_toArray, List.set_cons_zero, List.set_cons_succ]; rfl) ?_
        exact J1200 (W.heap.size, gx, gd, ge, gc) _ ⟨(below_then hB hB.size (below_alloc (Below.refl _ _) _)), ⟨heap_alloc_new _ _, hB.size⟩, trivial, ⟨blk_below hC.1 (below_alloc (Below.refl _ _) _), hC.2⟩, (Nat.ne_of_gt (blk_lt hC.1)), trivial, trivial⟩
      · refine value_ (w1 := W.alloc (.cells #[] 66)) (v := .slice (some ⟨W.heap.size, 0, none⟩) 0 0) (by rfl) rfl (by first | (go_simp; done) | (go_simp; rfl)) ?_
        refine hK.out _ _ trivial (fun _ => ?_)
        refine norm_ (a' := ?_) (by simp only [Act.put, List.setIfInBounds_toArray, List.set_cons_zero, List.set_cons_succ]; rfl) ?_
        exact J0210 (gf, gx, gd, W.heap.size, gc) _ ⟨(below_then hB hB.size (below_alloc (Below.refl _ _) _)), trivial, trivial, ⟨blk_below hC.1 (below_alloc (Below.refl _ _) _), hC.2⟩, trivial, ⟨heap_alloc_new _ _, hB.size⟩, trivial⟩
    refine join_ (σ := Nat × Nat × Nat × Nat × Nat) 7 #[true, true, false, true, true, false, false, false, true, false, false, false] (fun s => [(22, .slice (some ⟨s.1, 0, none⟩) na na), (29, .slice (some ⟨s.2.2.2.1, 0, none⟩) 0 0)]) (fun s w' => (Below w.heap.size w w') ∧ (w'.heap[s.1]? = some (.cells (madeCells #[.int .i64 0] na) 3 (0, 0)) ∧ w.heap.size ≤ s.1) ∧ (True) ∧ (True) ∧ (True) ∧ (w'.heap[s.2.2.2.1]? = some (.cells #[] 66 (0, 0)) ∧ w.heap.size ≤ s.2.2.2.1) ∧ (True)) ?j1010 (fun J1010 => ?_)
    rotate_left
    simp only [putAll, Act.put, List.setIfInBounds_toArray, List.set_cons_zero, List.set_cons_succ] at J1010
    rotate_left
    case j1010 =>
      rintro ⟨gf, gx, gd, ge, gc⟩ W ⟨hB, hA, -, -, -, hE, -⟩
      dsimp only at hB hA hE
      refine norm_ (a' := ?_) (by simp only [putAll, Act.put, List.setIfInBounds_toArray, List.set_cons_zero, List.set_cons_succ]; rfl) ?_
      refine one_ (i := 2) (N := some 23) #[true, true, true, true, true, false, false, false, true, false, false, false] rfl rfl (by kernel_rfl) (by decide) (fun K hK => ?_)
      refine value_ (w1 := W.alloc (.cells #[.int .i64 (-1)] 3)) (v := .slice (some ⟨W.heap.size, 0, none⟩) 1 1) (by rfl) rfl (by first | (go_simp; done) | (go_simp; rfl)) ?_
      refine hK.out _ _ trivial (fun _ => ?_)
      refine norm_ (a' := ?_) (by simp only [Act.put, List.setIfInBounds_toArray, List.set_cons_zero, List.set_cons_succ]; rfl) ?_
      exact J1110 (gf, W.heap.size, gd, ge, gc) _ ⟨(below_then hB hB.size (below_alloc (Below.refl _ _) _)), ⟨blk_below hA.1 (below_alloc (Below.refl _ _) _), hA.2⟩, heap_alloc_new _ _, trivial, trivial, ⟨blk_below hE.1 (below_alloc (Below.refl _ _) _), hE.2⟩, trivial⟩
    refine join_ (σ := Nat × Nat × Nat × Nat × Nat) 7 #[true, true, true, true, true, false, false, false, false, false, false, false] (fun s => [(22, .slice (some ⟨s.1, 0, none⟩) na na), (23, .slice (some ⟨s.2.1, 0, none⟩) 1 1)]) (fun s w' => (Below w.heap.size w w') ∧ (w'.heap[s.1]? = some (.cells (madeCells #[.int .i64 0] na) 3 (0, 0)) ∧ w.heap.size ≤ s.1) ∧ (w'.heap[s.2.1]? = some (.cells #[.int .i64 (-1)] 3 (0, 0))) ∧ (True) ∧ (True) ∧ (True) ∧ (True)) ?j1100 (fun J1100 => ?_)
    rotate_left
    simp only [putAll, Act.put, List.setIfInBounds_toArray, List.set_cons_zero, List.set_cons_succ] at J1100
    rotate_left
    case j1100 =>
      rintro ⟨gf, gx, gd, ge, gc⟩ W ⟨hB, hA, hBx, -, -, -, -⟩
      dsimp only at hB hA hBx
      refine norm_ (a' := ?_) (by simp only [putAll, Act.put, List.setIfInBounds_toArray, List.set_cons_zero, List.set_cons_succ]; rfl) ?_
      refine two_ (i := 5) (Ni := some 26) (j := 8) (Nj := some 29) #[true, true, true, true, true, true, false, false, false, false, false, false] #[true, true, true, true, true, false, false, false, true, false, false, false] rfl rfl rfl rfl (by kernel_rfl) (by decide) (by decide) (fun K hK => ?_) (fun K hK => ?_)
      · refine goes_ Try.func62 (by kernel_rfl) rfl #[.slice (some ⟨gx, 0, none⟩) 1 1, .int .i64 (l0.length : Int)] (by rfl) rfl rfl (by simp only [List.map_toArray, List.map_cons, List.map_nil]; rfl) ?_
        refine (slices_Repeat_one gx 1 l0.length HGD.out.1 W hBx).mono ?_
        rintro e w' ⟨gd', rfl, hgd, hrow, hb⟩
        refine ⟨_, rfl, hK.out _ _ trivial (fun _ => ?_)⟩
        refine norm_ (a' := ?_) (by simp only [Act.put, List.setIfInBounds_toArray, List.set_cons_zero, List.set_cons_succ]; rfl) ?_
        exact J1200 (gf, gx, gd', ge, gc) _ ⟨(below_then hB hB.size hb), ⟨blk_below hA.1 hb, hA.2⟩, trivial, ⟨hrow, Nat.le_trans hB.size hgd⟩, (Nat.ne_of_lt (Nat.lt_of_lt_of_le (blk_lt hA.1) hgd)), trivial, trivial⟩
      · refine value_ (w1 := W.alloc (.cells #[] 66)) (v := .slice (some ⟨W.heap.size, 0, none⟩) 0 0) (by rfl) rfl (by first | (go_simp; done) | (go_simp; rfl)) ?_
        refine hK.out _ _ trivial (fun _ => ?_)
        refine norm_ (a' := ?_) (by simp only [Act.put, List.setIfInBounds_toArray, List.set_cons_zero, List.set_cons_succ]; rfl) ?_
        exact J1110 (gf, gx, gd, W.heap.size, gc) _ ⟨(below_then hB hB.size (below_alloc (Below.refl _ _) _)), ⟨blk_below hA.1 (below_alloc (Below.refl _ _) _), hA.2⟩, blk_below hBx (below_alloc (Below.refl _ _) _), trivial, trivial, ⟨heap_alloc_new _ _, hB.size⟩, trivial⟩
    refine join_ (σ := Nat × Nat × Nat × Nat × Nat) 8 #[true, false, false, true, true, false, false, false, true, false, false, false] (fun s => [(29, .slice (some ⟨s.2.2.2.1, 0, none⟩) 0 0)]) (fun s w' => (Below w.heap.size w w') ∧ (True) ∧ (True) ∧ (True) ∧ (True) ∧ (w'.heap[s.2.2.2.1]? = some (.cells #[] 66 (0, 0)) ∧ w.heap.size ≤ s.2.2.2.1) ∧ (True)) ?j0010 (fun J0010 => ?_)
    rotate_left
    simp only [putAll, Act.put, List.setIfInBounds_toArray, List.set_cons_zero, List.set_cons_succ] at J0010
    rotate_left
    case j0010 =>
      rintro ⟨gf, gx, gd, ge, gc⟩ W ⟨hB, -, -, -, -, hE, -⟩
      dsimp only at hB hE
      refine norm_ (a' := ?_) (by simp only [putAll, Act.put, List.setIfInBounds_toArray, List.set_cons_zero, List.set_cons_succ]; rfl) ?_
      refine two_ (i := 1) (Ni := some 22) (j := 2) (Nj := some 23) #[true, true, false, true, true, false, false, false, true, false, false, false] #[true, false, true, true, true, false, false, false, true, false, false, false] rfl rfl rfl rfl (by kernel_rfl) (by decide) (by decide) (fun K hK => ?_) (fun K hK => ?_)
      · refine value_ (w1 := W.alloc (.cells (madeCells #[.int .i64 0] na) 3)) (v := .slice (some ⟨W.heap.size, 0, none⟩) na na) (by rfl) rfl (by first | (go_simp; done) | (go_simp; rfl)) ?_
        refine hK.out _ _ trivial (fun _ => ?_)
        refine norm_ (a' := ?_) (by simp only [Act.put, List.setIfInBounds_toArray, List.set_cons_zero, List.set_cons_succ]; rfl) ?_
        exact J1010 (W.heap.size, gx, gd, ge, gc) _ ⟨(below_then hB hB.size (below_alloc (Below.refl _ _) _)), ⟨heap_alloc_new _ _, hB.size⟩, trivial, trivial, trivial, ⟨blk_below hE.1 (below_alloc (Below.refl _ _) _), hE.2⟩, trivial⟩
      · refine value_ (w1 := W.alloc (.cells #[.int .i64 (-1)] 3)) (v := .slice (some ⟨W.heap.size, 0, none⟩) 1 1) (by rfl) rfl (by first | (go_simp; done) | (go_simp; rfl)) ?_
        refine hK.out _ _ trivial (fun _ => ?_)
        refine norm_ (a' := ?_) (by simp only [Act.put, List.setIfInBounds_toArray, List.set_cons_zero, List.set_cons_succ]; rfl) ?_
        exact J0110 (gf, W.heap.size, gd, ge, gc) _ ⟨(below_then hB hB.size (below_alloc (Below.refl _ _) _)), trivial, heap_alloc_new _ _, trivial, trivial, ⟨blk_below hE.1 (below_alloc (Below.refl _ _) _), hE.2⟩, trivial⟩
    refine join_ (σ := Nat × Nat × Nat × Nat × Nat) 8 #[true, false, true, true, true, false, false, false, false, false, false, false] (fun s => [(23, .slice (some ⟨s.2.1, 0, none⟩) 1 1)]) (fun s w' => (Below w.heap.size w w') ∧ (True) ∧ (w'.heap[s.2.1]? = some (.cells #[.int .i64 (-1)] 3 (0, 0))) ∧ (True) ∧ (True) ∧ (True) ∧ (True)) ?j0100 (fun J0100 => ?_)
    rotate_left
    simp only [putAll, Act.put, List.setIfInBounds_toArray, List.set_cons_zero, List.set_cons_succ] at J0100
    rotate_left
    case j0100 =>
      rintro ⟨gf, gx, gd, ge, gc⟩ W ⟨hB, -, hBx, -, -, -, -⟩
      dsimp only at hB hBx
      refine norm_ (a' := ?_) (by simp only [putAll, Act.put, List.setIfInBounds_toArray, List.set_cons_zero, List.set_cons_succ]; rfl) ?_
      refine three_ (i := 1) (Ni := some 22) (j := 5) (Nj := some 26) (k := 8) (Nk := some 29) #[true, true, true, true, true, false, false, false, false, false, false, false] #[true, false, true, true, true, true, false, false, false, false, false, false] #[true, false, true, true, true, false, false, false, true, false, false, false] rfl rfl rfl rfl rfl rfl (by kernel_rfl) (by decide) (by decide) (by decide) (fun K hK => ?_) (fun K hK => ?_) (fun K hK => ?_)
      · refine value_ (w1 := W.alloc (.cells (madeCells #[.int .i64 0] na) 3)) (v := .slice (some ⟨W.heap.size, 0, none⟩) na na) (by rfl) rfl (by first | (go_simp; done) | (go_simp; rfl)) ?_
        refine hK.out _ _ trivial (fun _ => ?_)
        refine norm_ (a' := ?_) (by simp only [Act.put, List.setIfInBounds_toArray, List.set_cons_zero, List.set_cons_succ]; rfl) ?_
        exact J1100 (W.heap.size, gx, gd, ge, gc) _ ⟨(below_then hB hB.size (below_alloc (Below.refl _ _) _)), ⟨heap_alloc_new _ _, hB.size⟩, blk_below hBx (below_alloc (Below.refl _ _) _), trivial, trivial, trivial, trivial⟩
      · refine goes_ Try.func62 (by kernel_rfl) rfl #[.slice (some ⟨gx, 0, none⟩) 1 1, .int .i64 (l0.length : Int)] (by rfl) rfl rfl (by simp only [List.map_toArray, List.map_cons, List.map_nil]; rfl) ?_
        refine (slices_Repeat_one gx 1 l0.length HGD.out.1 W hBx).mono ?_
        rintro e w' ⟨gd', rfl, hgd, hrow, hb⟩
        refine ⟨_, rfl, hK.out _ _ trivial (fun _ => ?_)⟩
        refine norm_ (a' := ?_) (by simp only [Act.put, List.setIfInBounds_toArray, List.set_cons_zero, List.set_cons_succ]; rfl) ?_
        exact J0200 (gf, gx, gd', ge, gc) _ ⟨(below_then hB hB.size hb), trivial, trivial, ⟨hrow, Nat.le_trans hB.size hgd⟩, trivial, trivial, trivial⟩
      · refine value_ (w1 := W.alloc (.cells #[] 66)) (v := .slice (some ⟨W.heap.size, 0, none⟩) 0 0) (by rfl) rfl (by first | (go_simp; done) | (go_simp; rfl)) ?_
        refine hK.out _ _ trivial (fun _ => ?_)
        refine norm_ (a' := ?_) (by simp only [Act.put, List.setIfInBounds_toArray, List.set_cons_zero, List.set_cons_succ]; rfl) ?_
        exact J0110 (gf, gx, gd, W.heap.size, gc) _ ⟨(below_then hB hB.size (below_alloc (Below.refl _ _) _)), trivial, blk_below hBx (below_alloc (Below.refl _ _) _), trivial, trivial, ⟨heap_alloc_new _ _, hB.size⟩, trivial⟩
    refine join_ (σ := Nat × Nat × Nat × Nat × Nat) 8 #[true, true, false, true, true, false, false, false, false, false, false, false] (fun s => [(22, .slice (some ⟨s.1, 0, none⟩) na na)]) (fun s w' => (Below w.heap.size w w') ∧ (w'.heap[s.1]? = some (.cells (madeCells #[.int .i64 0] na) 3 (0, 0)) ∧ w.heap.size ≤ s.1) ∧ (True) ∧ (True) ∧ (True) ∧ (True) ∧ (True)) ?j1000 (fun J1000 => ?_)
    rotate_left
    simp only [putAll, Act.put, List.setIfInBounds_toArray, List.set_cons_zero, List.set_cons_succ] at J1000
    rotate_left
    case j1000 =>
      rintro ⟨gf, gx, gd, ge, gc⟩ W ⟨hB, hA, -, -, -, -, -⟩
      dsimp only at hB hA
      refine norm_ (a' := ?_) (by simp only [putAll, Act.put, List.setIfInBounds_toArray, List.set_cons_zero, List.set_cons_succ]; rfl) ?_
      refine two_ (i := 2) (Ni := some 23) (j := 8) (Nj := some 29) #[true, true, true, true, true, false, false, false, false, false, false, false] #[true, true, false, true, true, false, false, false, true, false, false, false] rfl rfl rfl rfl (by kernel_rfl) (by decide) (by decide) (fun K hK => ?_) (fun K hK => ?_)
      · refine value_ (w1 := W.alloc (.cells #[.int .i64 (-1)] 3)) (v := .slice (some ⟨W.heap.size, 0, none⟩) 1 1) (by rfl) rfl (by first | (go_simp; done) | (go_simp; rfl)) ?_
        refine hK.out _ _ trivial (fun _ => ?_)
        refine norm_ (a' := ?_) (by simp only [Act.put, List.setIfInBounds_toArray, List.set_cons_zero, List.set_cons_succ]; rfl) ?_
        exact J1100 (gf, W.heap.size, gd, ge, gc) _ ⟨(below_then hB hB.size (below_alloc (Below.refl _ _) _)), ⟨blk_below hA.1 (below_alloc (Below.refl _ _) _), hA.2⟩, heap_alloc_new _ _, trivial, trivial, trivial, trivial⟩
      · refine value_ (w1 := W.alloc (.cells #[] 66)) (v := .slice (some ⟨W.heap.size, 0, none⟩) 0 0) (by rfl) rfl (by first | (go_simp; done) | (go_simp; rfl)) ?_
        refine hK.out _ _ trivial (fun _ => ?_)
        refine norm_ (a' := ?_) (by simp only [Act.put, List.setIfInBounds_toArray, List.set_cons_zero, List.set_cons_succ]; rfl) ?_
        exact J1010 (gf, gx, gd, W.heap.size, gc) _ ⟨(below_then hB hB.size (below_alloc (Below.refl _ _) _)), ⟨blk_below hA.1 (below_alloc (Below.refl _ _) _), hA.2⟩, trivial, trivial, trivial, ⟨heap_alloc_new _ _, hB.size⟩, trivial⟩
    have hB := HB4.out
    obtain ⟨gf, gx, gd, ge, gc⟩ : Nat × Nat × Nat × Nat × Nat := (0, 0, 0, 0, 0)
    refine three_ (i := 1) (Ni := some 22) (j := 2) (Nj := some 23) (k := 8) (Nk := some 29) #[true, true, false, true, true, false, false, false, false, false, false, false] #[true, false, true, true, true, false, false, false, false, false, false, false] #[true, false, false, true, true, false, false, false, true, false, false, false] rfl rfl rfl rfl rfl rfl (by kernel_rfl) (by decide) (by decide) (by decide) (fun K hK => ?_) (fun K hK => ?_) (fun K hK => ?_)
    · refine value_ (w1 := (World.drew w2).alloc (.cells (madeCells #[.int .i64 0] na) 3)) (v := .slice (some ⟨(World.drew w2).heap.size, 0, none⟩) na na) (by rfl) rfl (by first | (go_simp; done) | (go_simp; rfl)) ?_
      refine hK.out _ _ trivial (fun _ => ?_)
      refine norm_ (a' := ?_) (by simp only [Act.put, List.setIfInBounds_toArray, List.set_cons_zero, List.set_cons_succ]; rfl) ?_
      exact J1000 ((World.drew w2).heap.size, gx, gd, ge, gc) _ ⟨(below_then hB hB.size (below_alloc (Below.refl _ _) _)), ⟨heap_alloc_new _ _, hB.size⟩, trivial, trivial, trivial, trivial, trivial⟩
    · refine value_ (w1 := (World.drew w2).alloc (.cells #[.int .i64 (-1)] 3)) (v := .slice (some ⟨(World.drew w2).heap.size, 0, none⟩) 1 1) (by rfl) rfl (by first | (go_simp; done) | (go_simp; rfl)) ?_
      refine hK.out _ _ trivial (fun _ => ?_)
      refine norm_ (a' := ?_) (by simp only [Act.put, List.setIfInBounds_toArray, List.set_cons_zero, List.set_cons_succ]; rfl) ?_
      exact J0100 (gf, (World.drew w2).heap.size, gd, ge, gc) _ ⟨(below_then hB hB.size (below_alloc (Below.refl _ _) _)), trivial, heap_alloc_new _ _, trivial, trivial, trivial, trivial⟩
    · refine value_ (w1 := (World.drew w2).alloc (.cells #[] 66)) (v := .slice (some ⟨(World.drew w2).heap.size, 0, none⟩) 0 0) (by rfl) rfl (by first | (go_simp; done) | (go_simp; rfl)) ?_
      refine hK.out _ _ trivial (fun _ => ?_)
      refine norm_ (a' := ?_) (by simp only [Act.put, List.setIfInBounds_toArray, List.set_cons_zero, List.set_cons_succ]; rfl) ?_
      exact J0010 (gf, gx, gd, (World.drew w2).heap.size, gc) _ ⟨(below_then hB hB.size (below_alloc (Below.refl _ _) _)), trivial, trivial, trivial, trivial, ⟨heap_alloc_new _ _, hB.size⟩, trivial⟩
  case rest =>
    obtain ⟨gc, gf, gd, rfl, rfl, HC, HO⟩ := hcut
    clear hmk
    go_wp2_with fail
    go_loopg [8, 9, 10] k (fun kq v8 v9 v10 w' => ∃ (st : St) (now : Nat), v9 = .int .i64 st.e ∧ v10 = .int .i64 (now : Int) ∧ Aside0 (scGo l0 na kq now st = some (r1, r2, r3)) ∧ Aside0 (st.free.length = na ∧ st.over.length = l0.length) ∧ Aside0 (CS gc gf gd na l0.length st.free st.over w w') ∧ Aside0 (Kd.R k66 66 w' w.heap.size (fun _ => True) v8 st.out))
    case atStart => exact ⟨⟨List.replicate na 0, List.replicate l0.length (-1), [], 0⟩, 0, rfl, rfl, H3, ⟨by simp⟩, HC, HO⟩
    case round =>
      clear H3 HC HO
      obtain ⟨st, now, rfl, rfl, H, HLN, HC, HO⟩ := hrel
      cases gk with
      | zero => exact absurd H.out (by simp [scGo])
      | succ k1 =>
      have h := H.out
      simp only [scGo] at h
      obtain ⟨Ao, co, eo⟩ := Kd.R_slice HO.out
      subst eo
      by_cases hlt : st.out.length < l0.length
      · rw [if_pos hlt] at h
        split at h
        case isFalse => cases h
        rename_i hnow
        have HNOW := Aside0.mk hnow
        have H2 := Aside0.mk h
        have HLT := Aside0.mk hlt
        have qlt : decide (st.out.length < l0.length) = true := decide_eq_true hlt
        have zc0 : wr.cell? ⟨gc, 0, none⟩ = some (.slice (some ⟨gf, 0, none⟩) na na) := (blk_cell HC.out.bc 0).trans rfl
        obtain ⟨sE, hsE⟩ : ∃ s, s = scW l0 (now : Int) na 0 st := ⟨_, rfl⟩
        rw [← hsE] at h
        have H2 := Aside0.mk h
        have HSE := Aside0.mk hsE.symm
        clear h hnow hlt H hsE
        go_wp2_with fail
        clear zc0
        go_loopg [8, 9, 42] na (fun kq v8 v9 v42 w' => ∃ (s : St) (j : Nat), v9 = .int .i64 s.e ∧ v42 = .int .i64 (j : Int) ∧ Aside0 (kq + j = na) ∧ Aside0 (scW l0 (now : Int) kq j s = sE) ∧ Aside0 (s.free.length = na ∧ s.over.length = l0.length) ∧ Aside0 (CS gc gf gd na l0.length s.free s.over w w') ∧ Aside0 (Kd.R k66 66 w' w.heap.size (fun _ => True) v8 s.out) ∧ Aside0 (s.out.length ≤ 29 + j))
        case atStart => exact ⟨st, 0, rfl, rfl, ⟨by omega⟩, HSE, HLN, HC, HO, ⟨by have := HLT.out; have := HGD.out.1; omega⟩⟩
        case round =>
          clear HSE HLN HC HO HLT qlt
          obtain ⟨s, j, rfl, rfl, HJ, HS, HLN, HC, HO, HOL⟩ := hrel
          obtain ⟨Ao2, co2, eo2⟩ := Kd.R_slice HO.out
          subst eo2
          by_cases hjn : j < na
          · cases gk with
            | zero => exact absurd HJ.out (by omega)
            | succ k2 =>
            have hs := HS.out
            simp only [scW] at hs
            have HS2 := Aside0.mk hs
            clear hs HS
            have zc0 : wr.cell? ⟨gc, 0, none⟩ = some (.slice (some ⟨gf, 0, none⟩) na na) := (blk_cell HC.out.bc 0).trans rfl
            have zf := HC.out.atf (j : Int) (by omega) (by have := HLN.out.1; omega)
            rw [Int.toNat_natCast] at zf
            have qj := eq_true hjn
            by_cases hbusy : (now : Int) < rdOf 0 s.free (j : Int)
            · have qb := decide_eq_true hbusy
              have hstep : scStep l0 (now : Int) j s = s := by unfold scStep; rw [if_pos hbusy]
              have HS3 := Aside0.mk (show scW l0 (now : Int) k2 (j + 1) s = sE by rw [← hstep]; exact HS2.out)
              clear hbusy hstep HS2
              go_wp2
              go_roundg k2
              case measure => omega
              case rel => exact ⟨s, j + 1, rfl, by first | rfl | (have := HA.out; congr 1; unfold wrap64; omega), ⟨by have := HJ.out; omega⟩, HS3, HLN, HC, HO, ⟨by have := HOL.out; omega⟩⟩
            · have qb := decide_eq_false hbusy
              have HBU := Aside0.mk hbusy
              clear hbusy
              go_wp2_with fail
              refine (crew_ready.at gc gd (.slice (some ⟨gf, 0, none⟩) na na) s.over A0 c0 l0 (now : Int) _ (Kd.C_below HR0.out HC.out.bel) HGD.out.1 HGD.out.2.1 HC.out.bc HC.out.ro HLN.out.2).mono ?_
              rintro e w3 ⟨rfl, hb3⟩
              have HC3 := Aside0.mk (HC.out.below hb3)
              have HO3 := Aside0.mk (Kd.R_below HO.out hb3)
              obtain ⟨tk, htk⟩ : ∃ t, t = rdyGo s.over (now : Int) l0 0 := ⟨_, rfl⟩
              have HTK := Aside0.mk htk
              rw [← htk]
              clear hb3 htk zc0 zf
              by_cases hneg : 0 ≤ tk
              · have HTL := Aside0.mk (show tk < (l0.length : Int) by
                  rcases rdyGo_rng s.over (now : Int) l0 0 with h | h
                  · have := HTK.out; omega
                  · have := HTK.out; omega)
                obtain ⟨n, rfl⟩ : ∃ n : Nat, tk = (n : Int) := ⟨tk.toNat, by omega⟩
                have hnl : n < l0.length := by have := HTL.out; omega
                obtain ⟨ad0, A1, c1, e0, -, -, -, -⟩ := at_T53 (Kd.C_below HR0.out HC3.out.bel) (n : Int) (by omega) (by omega)
                subst e0
                have ZX : Aside0 (∀ W : World, Below w.heap.size w W → W.cell? (ad0.add (n * 2)) = some (.int .i64 (rd_T53 l0 (n : Int)).f0)) := ⟨fun W hW => by
                  obtain ⟨ad1, A1, c1, e1, h1, -, -, -⟩ := at_T53 (Kd.C_below HR0.out hW) (n : Int) (by omega) (by omega)
                  cases e1
                  rwa [Int.toNat_natCast] at h1⟩
                obtain ⟨lg, hlg⟩ : ∃ g, g = (rd_T53 l0 (n : Int)).f0 := ⟨_, rfl⟩
                have HLG := Aside0.mk hlg
                rw [← hlg] at ZX
                have HL2 := Aside0.mk (show 1 ≤ lg ∧ lg ≤ 100 from by
                  rw [hlg]; refine HGD.out.2.2 _ ?_
                  unfold rd_T53
                  rw [Int.toNat_natCast, List.getD_eq_getElem?_getD, List.getElem?_eq_getElem hnl]; exact List.getElem_mem hnl)
                have hsum : wrap64 ((now : Int) + lg) = (now : Int) + lg := by have h1 := HNOW.out; have h2 := HL2.out; unfold wrap64; omega
                have qn := decide_eq_true hneg
                have qnl := eq_true hnl
                have HSUM := Aside0.mk hsum
                clear hlg hneg
                go_wp2_with fail
                have zc0 : w3.drew.cell? ⟨gc, 0, none⟩ = some (.slice (some ⟨gf, 0, none⟩) na na) := (blk_cell HC3.out.bc 0).trans rfl
                have zc1 : w3.drew.cell? ⟨gc, 1, none⟩ = some (.slice (some ⟨gd, 0, none⟩) l0.length l0.length) := (blk_cell HC3.out.bc 1).trans rfl
                have zx : w3.drew.cell? (ad0.add (n * 2)) = some (.int .i64 lg) := ZX.out w3.drew (below_drew HC3.out.bel)
                refine start_ (n := 28) (S := fun w' => w'.cell? ⟨gc, 0, none⟩ = some (.slice (some ⟨gf, 0, none⟩) na na) ∧ w'.cell? ⟨gc, 1, none⟩ = some (.slice (some ⟨gd, 0, none⟩) l0.length l0.length) ∧ w'.cell? (ad0.add (n * 2)) = some (.int .i64 lg)) (ds := []) #[false, false, false, false, false, false, false, false, false, false, false, false, false, false, false, false, false, false, false, false, false, false, false, false, false, false, false, false] (by kernel_rfl) rfl rfl ⟨zc0, zc1, zx⟩ (fun hHeld => ?_)
                refine pure_ (i := 0) (N := some 60) (v := ?_) (a' := ?_) #[true, false, false, false, false, false, false, false, false, false, false, false, false, false, false, false, false, false, false, false, false, false, false, false, false, false, false, false] rfl rfl (by kernel_rfl) (fun _ _ _ h => h) (Or.inl ⟨by rfl, ?_⟩) ?_ ?_
                rotate_left
                · intro w'
                  go_simp
                  with_reducible rfl
                rotate_left
                · simp only [Act.put, List.setIfInBounds_toArray, List.set_cons_zero, List.set_cons_succ, i64_w, i32_w]
                  rfl
                refine pure_ (i := 1) (N := some 61) (v := ?_) (a' := ?_) #[true, true, false, false, false, false, false, false, false, false, false, false, false, false, false, false, false, false, false, false, false, false, false, false, false, false, false, false] rfl rfl (by kernel_rfl) (fun _ _ _ h => h) (Or.inl ⟨by rfl, ?_⟩) ?_ ?_
                rotate_left
                · intro w'
                  go_simp
                  with_reducible rfl
                rotate_left
                · simp only [Act.put, List.setIfInBounds_toArray, List.set_cons_zero, List.set_cons_succ, i64_w, i32_w]
                  rfl
                refine pure_ (i := 2) (N := some 62) (v := ?_) (a' := ?_) #[true, true, true, false, false, false, false, false, false, false, false, false, false, false, false, false, false, false, false, false, false, false, false, false, false, false, false, false] rfl rfl (by kernel_rfl) (fun _ _ _ h => h) (Or.inl ⟨by rfl, ?_⟩) ?_ ?_
                rotate_left
                · intro w'
                  go_simp
                  with_reducible rfl
                rotate_left
                · simp only [Act.put, List.setIfInBounds_toArray, List.set_cons_zero, List.set_cons_succ, i64_w, i32_w]
                  rfl
                refine take_ (i := 3) (N := some 63) (v := ?_) (a' := ?_) #[true, true, true, true, false, false, false, false, false, false, false, false, false, false, false, false, false, false, false, false, false, false, false, false, false, false, false, false] rfl rfl (by kernel_rfl) (fun _ _ _ h => h) (Or.inl ⟨by rfl, ?_⟩) hHeld ?_ ?_
                rotate_left
                · rintro w' ⟨s0, s1, s2⟩
                  go_simp
                  with_reducible rfl
                rotate_left
                · simp only [Act.put, List.setIfInBounds_toArray, List.set_cons_zero, List.set_cons_succ, i64_w, i32_w]
                  rfl
                refine pure_ (i := 4) (N := some 64) (v := ?_) (a' := ?_) #[true, true, true, true, true, false, false, false, false, false, false, false, false, false, false, false, false, false, false, false, false, false, false, false, false, false, false, false] rfl rfl (by kernel_rfl) (fun _ _ _ h => h) (Or.inl ⟨by rfl, ?_⟩) ?_ ?_
                rotate_left
                · intro w'
                  go_simp
                  with_reducible rfl
                rotate_left
                · simp only [Act.put, List.setIfInBounds_toArray, List.set_cons_zero, List.set_cons_succ, i64_w, i32_w]
                  rfl
                refine pure_ (i := 5) (N := some 65) (v := ?_) (a' := ?_) #[true, true, true, true, true, true, false, false, false, false, false, false, false, false, false, false, false, false, false, false, false, false, false, false, false, false, false, false] rfl rfl (by kernel_rfl) (fun _ _ _ h => h) (Or.inl ⟨by rfl, ?_⟩) ?_ ?_
                rotate_left
                · intro w'
                  go_simp
                  with_reducible rfl
                rotate_left
                · simp only [Act.put, List.setIfInBounds_toArray, List.set_cons_zero, List.set_cons_succ, i64_w, i32_w]
                  rfl
                refine pure_ (i := 6) (N := some 66) (v := ?_) (a' := ?_) #[true, true, true, true, true, true, true, false, false, false, false, false, false, false, false, false, false, false, false, false, false, false, false, false, false, false, false, false] rfl rfl (by kernel_rfl) (fun _ _ _ h => h) (Or.inl ⟨by rfl, ?_⟩) ?_ ?_
                rotate_left
                · intro w'
                  go_simp
                  with_reducible rfl
                rotate_left
                · simp only [Act.put, List.setIfInBounds_toArray, List.set_cons_zero, List.set_cons_succ, i64_w, i32_w]
                  rfl
                refine pure_ (i := 7) (N := some 67) (v := ?_) (a' := ?_) #[true, true, true, true, true, true, true, true, false, false, false, false, false, false, false, false, false, false, false, false, false, false, false, false, false, false, false, false] rfl rfl (by kernel_rfl) (fun _ _ _ h => h) (Or.inl ⟨by rfl, ?_⟩) ?_ ?_
                rotate_left
                · intro w'
                  go_simp
                  with_reducible rfl
                rotate_left
                · simp only [Act.put, List.setIfInBounds_toArray, List.set_cons_zero, List.set_cons_succ, i64_w, i32_w]
                  rfl
                refine take_ (i := 8) (N := some 68) (v := ?_) (a' := ?_) #[true, true, true, true, true, true, true, true, true, false, false, false, false, false, false, false, false, false, false, false, false, false, false, false, false, false, false, false] rfl rfl (by kernel_rfl) (fun _ _ _ h => h) (Or.inl ⟨by rfl, ?_⟩) hHeld ?_ ?_
                rotate_left
                · rintro w' ⟨s0, s1, s2⟩
                  go_simp
                  with_reducible rfl
                rotate_left
                · simp only [Act.put, List.setIfInBounds_toArray, List.set_cons_zero, List.set_cons_succ, i64_w, i32_w]
                  rfl
                refine pure_ (i := 9) (N := some 69) (v := ?_) (a' := ?_) #[true, true, true, true, true, true, true, true, true, true, false, false, false, false, false, false, false, false, false, false, false, false, false, false, false, false, false, false] rfl rfl (by kernel_rfl) (fun _ _ _ h => h) (Or.inl ⟨by rfl, ?_⟩) ?_ ?_
                rotate_left
                · intro w'
                  go_simp
                  with_reducible rfl
                rotate_left
                · simp only [Act.put, List.setIfInBounds_toArray, List.set_cons_zero, List.set_cons_succ, i64_w, i32_w]
                  rfl
                refine pure_ (i := 10) (N := some 70) (v := ?_) (a' := ?_) #[true, true, true, true, true, true, true, true, true, true, true, false, false, false, false, false, false, false, false, false, false, false, false, false, false, false, false, false] rfl rfl (by kernel_rfl) (fun _ _ _ h => h) (Or.inl ⟨by rfl, ?_⟩) ?_ ?_
                rotate_left
                · intro w'
                  go_simp
                  with_reducible rfl
                rotate_left
                · simp only [Act.put, List.setIfInBounds_toArray, List.set_cons_zero, List.set_cons_succ, i64_w, i32_w]
                  rfl
                refine pure_ (i := 11) (N := some 71) (v := ?_) (a' := ?_) #[true, true, true, true, true, true, true, true, true, true, true, true, false, false, false, false, false, false, false, false, false, false, false, false, false, false, false, false] rfl rfl (by kernel_rfl) (fun _ _ _ h => h) (Or.inl ⟨by rfl, ?_⟩) ?_ ?_
                rotate_left
                · intro w'
                  go_simp
                  with_reducible rfl
                rotate_left
                · simp only [Act.put, List.setIfInBounds_toArray, List.set_cons_zero, List.set_cons_succ, i64_w, i32_w]
                  rfl
                refine pure_ (i := 12) (N := some 72) (v := ?_) (a' := ?_) #[true, true, true, true, true, true, true, true, true, true, true, true, true, false, false, false, false, false, false, false, false, false, false, false, false, false, false, false] rfl rfl (by kernel_rfl) (fun _ _ _ h => h) (Or.inl ⟨by rfl, ?_⟩) ?_ ?_
                rotate_left
                · intro w'
                  go_simp
                  with_reducible rfl
                rotate_left
                · simp only [Act.put, List.setIfInBounds_toArray, List.set_cons_zero, List.set_cons_succ, i64_w, i32_w]
                  rfl
                refine pure_ (i := 13) (N := some 73) (v := ?_) (a' := ?_) #[true, true, true, true, true, true, true, true, true, true, true, true, true, true, false, false, false, false, false, false, false, false, false, false, false, false, false, false] rfl rfl (by kernel_rfl) (fun _ _ _ h => h) (Or.inl ⟨by rfl, ?_⟩) ?_ ?_
                rotate_left
                · intro w'
                  go_simp
                  with_reducible rfl
                rotate_left
                · simp only [Act.put, List.setIfInBounds_toArray, List.set_cons_zero, List.set_cons_succ, i64_w, i32_w]
                  rfl
                refine pure_ (i := 14) (N := some 74) (v := ?_) (a' := ?_) #[true, true, true, true, true, true, true, true, true, true, true, true, true, true, true, false, false, false, false, false, false, false, false, false, false, false, false, false] rfl rfl (by kernel_rfl) (fun _ _ _ h => h) (Or.inl ⟨by rfl, ?_⟩) ?_ ?_
                rotate_left
                · intro w'
                  go_simp
                  with_reducible rfl
                rotate_left
                · simp only [Act.put, List.setIfInBounds_toArray, List.set_cons_zero, List.set_cons_succ, i64_w, i32_w]
                  rfl
                refine take_ (i := 15) (N := some 75) (v := ?_) (a' := ?_) #[true, true, true, true, true, true, true, true, true, true, true, true, true, true, true, true, false, false, false, false, false, false, false, false, false, false, false, false] rfl rfl (by kernel_rfl) (fun _ _ _ h => h) (Or.inl ⟨by rfl, ?_⟩) hHeld ?_ ?_
                rotate_left
                · rintro w' ⟨s0, s1, s2⟩
                  go_simp
                  with_reducible rfl
                rotate_left
                · simp only [Act.put, List.setIfInBounds_toArray, List.set_cons_zero, List.set_cons_succ, i64_w, i32_w]
                  rfl
                refine pure_ (i := 16) (N := some 76) (v := ?_) (a' := ?_) #[true, true, true, true, true, true, true, true, true, true, true, true, true, true, true, true, true, false, false, false, false, false, false, false, false, false, false, false] rfl rfl (by kernel_rfl) (fun _ _ _ h => h) (Or.inl ⟨by rfl, ?_⟩) ?_ ?_
                rotate_left
                · intro w'
                  go_simp
                  with_reducible rfl
                rotate_left
                · simp only [Act.put, List.setIfInBounds_toArray, List.set_cons_zero, List.set_cons_succ, i64_w, i32_w]
                  rfl
                refine pure_ (i := 17) (N := some 77) (v := ?_) (a' := ?_) #[true, true, true, true, true, true, true, true, true, true, true, true, true, true, true, true, true, true, false, false, false, false, false, false, false, false, false, false] rfl rfl (by kernel_rfl) (fun _ _ _ h => h) (Or.inl ⟨by rfl, ?_⟩) ?_ ?_
                rotate_left
                · intro w'
                  go_simp
                  with_reducible rfl
                rotate_left
                · simp only [Act.put, List.setIfInBounds_toArray, List.set_cons_zero, List.set_cons_succ, i64_w, i32_w]
                  rfl
                refine pure_ (i := 18) (N := some 78) (v := ?_) (a' := ?_) #[true, true, true, true, true, true, true, true, true, true, true, true, true, true, true, true, true, true, true, false, false, false, false, false, false, false, false, false] rfl rfl (by kernel_rfl) (fun _ _ _ h => h) (Or.inl ⟨by rfl, ?_⟩) ?_ ?_
                rotate_left
                · intro w'
                  go_simp
                  with_reducible rfl
                rotate_left
                · simp only [Act.put, List.setIfInBounds_toArray, List.set_cons_zero, List.set_cons_succ, i64_w, i32_w]
                  rfl
                refine pure_ (i := 19) (N := some 79) (v := ?_) (a' := ?_) #[true, true, true, true, true, true, true, true, true, true, true, true, true, true, true, true, true, true, true, true, false, false, false, false, false, false, false, false] rfl rfl (by kernel_rfl) (fun _ _ _ h => h) (Or.inl ⟨by rfl, ?_⟩) ?_ ?_
                rotate_left
                · intro w'
                  go_simp
                  with_reducible rfl
                rotate_left
                · simp only [Act.put, List.setIfInBounds_toArray, List.set_cons_zero, List.set_cons_succ, i64_w, i32_w]
                  rfl
                refine pure_ (i := 20) (N := some 80) (v := ?_) (a' := ?_) #[true, true, true, true, true, true, true, true, true, true, true, true, true, true, true, true, true, true, true, true, true, false, false, false, false, false, false, false] rfl rfl (by kernel_rfl) (fun _ _ _ h => h) (Or.inl ⟨by rfl, ?_⟩) ?_ ?_
                rotate_left
                · intro w'
                  go_simp
                  with_reducible rfl
                rotate_left
                · simp only [Act.put, List.setIfInBounds_toArray, List.set_cons_zero, List.set_cons_succ, i64_w, i32_w]
                  rfl
                refine pure_ (i := 21) (N := some 81) (v := ?_) (a' := ?_) #[true, true, true, true, true, true, true, true, true, true, true, true, true, true, true, true, true, true, true, true, true, true, false, false, false, false, false, false] rfl rfl (by kernel_rfl) (fun _ _ _ h => h) (Or.inl ⟨by rfl, ?_⟩) ?_ ?_
                rotate_left
                · intro w'
                  go_simp
                  with_reducible rfl
                rotate_left
                · simp only [Act.put, List.setIfInBounds_toArray, List.set_cons_zero, List.set_cons_succ, i64_w, i32_w]
                  rfl
                refine take_ (i := 22) (N := some 82) (v := ?_) (a' := ?_) #[true, true, true, true, true, true, true, true, true, true, true, true, true, true, true, true, true, true, true, true, true, true, true, false, false, false, false, false] rfl rfl (by kernel_rfl) (fun _ _ _ h => h) (Or.inl ⟨by rfl, ?_⟩) hHeld ?_ ?_
                rotate_left
                · rintro w' ⟨s0, s1, s2⟩
                  go_simp
                  with_reducible rfl
                rotate_left
                · simp only [Act.put, List.setIfInBounds_toArray, List.set_cons_zero, List.set_cons_succ, i64_w, i32_w]
                  rfl
                refine pure_ (i := 23) (N := some 83) (v := ?_) (a' := ?_) #[true, true, true, true, true, true, true, true, true, true, true, true, true, true, true, true, true, true, true, true, true, true, true, true, false, false, false, false] rfl rfl (by kernel_rfl) (fun _ _ _ h => h) (Or.inl ⟨by rfl, ?_⟩) ?_ ?_
                rotate_left
                · intro w'
                  go_simp
                  with_reducible rfl
                rotate_left
                · simp only [Act.put, List.setIfInBounds_toArray, List.set_cons_zero, List.set_cons_succ, i64_w, i32_w]
                  rfl
                refine pure_ (i := 24) (N := some 84) (v := ?_) (a' := ?_) #[true, true, true, true, true, true, true, true, true, true, true, true, true, true, true, true, true, true, true, true, true, true, true, true, true, false, false, false] rfl rfl (by kernel_rfl) (fun _ _ _ h => h) (Or.inl ⟨by rfl, ?_⟩) ?_ ?_
                rotate_left
                · intro w'
                  go_simp
                  with_reducible rfl
                rotate_left
                · simp only [Act.put, List.setIfInBounds_toArray, List.set_cons_zero, List.set_cons_succ, i64_w, i32_w]
                  rfl
                clear hHeld
                have zf3 : w3.drew.cell? ⟨gf, j, none⟩ = some (.int .i64 (rdOf 0 s.free (j : Int))) := HC3.out.atf (j : Int) (by omega) (by have := HLN.out.1; omega)
                have ff3 : w3.drew.frozen? ⟨gf, j, none⟩ = false := blk_frozen (blk_drew HC3.out.rf) j
                refine one_ (i := 25) (N := none) #[true, true, true, true, true, true, true, true, true, true, true, true, true, true, true, true, true, true, true, true, true, true, true, true, true, true, false, false] rfl rfl (by kernel_rfl) (by decide) (fun K hK => ?_)
                refine skip_ (w1 := w3.drew.setCell ⟨gf, j, none⟩ (.int .i64 ((now : Int) + lg))) (by rfl) rfl ?_ ?_
                · first | (go_simp; done) | (go_simp; rfl)
                have HC4 := Aside0.mk (HC3.out.drew.putf j ((now : Int) + lg))
                have HO4 := Aside0.mk (Kd.R_mono (Kd.R_far (p := ⟨gf, j, none⟩) (Kd.R_types (Kd.R_drew HO3.out) (blk_drew HC3.out.rf) (by decide)) (fun _ hk => hk.2) (.int .i64 ((now : Int) + lg))) (fun _ _ => trivial))
                generalize hW4 : w3.drew.setCell _ _ = W4 at HC4 HO4 ⊢
                refine hK.out _ _ ⟨(blk_cell HC4.out.bc 0).trans rfl, (blk_cell HC4.out.bc 1).trans rfl, ZX.out _ HC4.out.bel⟩ (fun _ => ?_)
                clear hK K zf3 ff3 hW4 zc0 zc1 zx
                have zo4 : W4.cell? ⟨gd, n, none⟩ = some (.int .i64 (rdOf 0 s.over (n : Int))) := HC4.out.ato (n : Int) (by omega) (by have := HLN.out.2; omega)
                have fo4 : W4.frozen? ⟨gd, n, none⟩ = false := blk_frozen HC4.out.ro n
                refine pure_ (i := 26) (N := some 85) (v := ?_) (a' := ?_) #[true, true, true, true, true, true, true, true, true, true, true, true, true, true, true, true, true, true, true, true, true, true, true, true, true, true, true, false] rfl rfl (by kernel_rfl) (fun _ _ _ h => h) (Or.inl ⟨by rfl, ?_⟩) ?_ ?_
                rotate_left
                · intro w'
                  go_simp
                  with_reducible rfl
                rotate_left
                · simp only [Act.put, List.setIfInBounds_toArray, List.set_cons_zero, List.set_cons_succ, i64_w, i32_w]
                  rfl
                refine one_ (i := 27) (N := none) #[true, true, true, true, true, true, true, true, true, true, true, true, true, true, true, true, true, true, true, true, true, true, true, true, true, true, true, true] rfl rfl (by kernel_rfl) (by decide) (fun K hK => ?_)
                refine skip_ (w1 := W4.setCell ⟨gd, n, none⟩ (.int .i64 ((now : Int) + lg))) (by rfl) rfl ?_ ?_
                · first | (go_simp; done) | (go_simp; rfl)
                have HC5 := Aside0.mk (HC4.out.puto n ((now : Int) + lg))
                have HO5 := Aside0.mk (Kd.R_mono (Kd.R_far (p := ⟨gd, n, none⟩) (Kd.R_types HO4.out HC4.out.ro (by decide)) (fun _ hk => hk.2) (.int .i64 ((now : Int) + lg))) (fun _ _ => trivial))
                generalize hW5 : W4.setCell _ _ = W5 at HC5 HO5 ⊢
                refine hK.out _ _ ⟨(blk_cell HC5.out.bc 0).trans rfl, (blk_cell HC5.out.bc 1).trans rfl, ZX.out _ HC5.out.bel⟩ (fun _ => ?_)
                clear hK K zo4 fo4 hW5
                refine done_ (by kernel_rfl) ?_
                go_wp2_with fail
                have HC5d := Aside0.mk HC5.out.drew
                have HO5d := Aside0.mk (Kd.R_drew HO5.out)
                have vo : ∀ W : World, CS gc gf gd na l0.length (s.free.set j ((now : Int) + lg)) (s.over.set n ((now : Int) + lg)) w W → W.cell? ⟨gd, n, none⟩ = some (.int .i64 ((now : Int) + lg)) := fun W hW => by
                  have h1 := hW.ato (n : Int) (by omega) (by rw [List.length_set]; have := HLN.out.2; omega)
                  rw [Int.toNat_natCast] at h1
                  rw [h1]
                  unfold rdOf
                  rw [Int.toNat_natCast, List.getD_eq_getElem?_getD, List.getElem?_set_self (by have := HLN.out.2; omega)]
                  rfl
                have VO := Aside0.mk vo
                clear vo
                have zc1 : W5.drew.cell? ⟨gc, 1, none⟩ = some (.slice (some ⟨gd, 0, none⟩) l0.length l0.length) := (blk_cell HC5d.out.bc 1).trans rfl
                have zo := VO.out _ HC5d.out
                clear HC5 HO5
                refine start_ (n := 18) (S := fun w' => w'.cell? ⟨gc, 1, none⟩ = some (.slice (some ⟨gd, 0, none⟩) l0.length l0.length) ∧ w'.cell? ⟨gd, n, none⟩ = some (.int .i64 ((now : Int) + lg))) (ds := []) #[false, false, false, false, false, false, false, false, false, false, false, false, false, false, false, false, false, false] (by kernel_rfl) rfl rfl ⟨zc1, zo⟩ (fun hHeld => ?_)
                refine pure_ (i := 0) (N := some 86) (v := ?_) (a' := ?_) #[true, false, false, false, false, false, false, false, false, false, false, false, false, false, false, false, false, false] rfl rfl (by kernel_rfl) (fun _ _ _ h => h) (Or.inl ⟨by rfl, ?_⟩) ?_ ?_
                rotate_left
                · intro w'
                  go_simp
                  with_reducible rfl
                rotate_left
                · simp only [Act.put, List.setIfInBounds_toArray, List.set_cons_zero, List.set_cons_succ, i64_w, i32_w]
                  rfl
                refine pure_ (i := 1) (N := some 87) (v := ?_) (a' := ?_) #[true, true, false, false, false, false, false, false, false, false, false, false, false, false, false, false, false, false] rfl rfl (by kernel_rfl) (fun _ _ _ h => h) (Or.inl ⟨by rfl, ?_⟩) ?_ ?_
                rotate_left
                · intro w'
                  go_simp
                  with_reducible rfl
                rotate_left
                · simp only [Act.put, List.setIfInBounds_toArray, List.set_cons_zero, List.set_cons_succ, i64_w, i32_w]
                  rfl
                refine pure_ (i := 2) (N := some 88) (v := ?_) (a' := ?_) #[true, true, true, false, false, false, false, false, false, false, false, false, false, false, false, false, false, false] rfl rfl (by kernel_rfl) (fun _ _ _ h => h) (Or.inl ⟨by rfl, ?_⟩) ?_ ?_
                rotate_left
                · intro w'
                  go_simp
                  with_reducible rfl
                rotate_left
                · simp only [Act.put, List.setIfInBounds_toArray, List.set_cons_zero, List.set_cons_succ, i64_w, i32_w]
                  rfl
                refine pure_ (i := 3) (N := some 89) (v := ?_) (a' := ?_) #[true, true, true, true, false, false, false, false, false, false, false, false, false, false, false, false, false, false] rfl rfl (by kernel_rfl) (fun _ _ _ h => h) (Or.inl ⟨by rfl, ?_⟩) ?_ ?_
                rotate_left
                · intro w'
                  go_simp
                  with_reducible rfl
                rotate_left
                · simp only [Act.put, List.setIfInBounds_toArray, List.set_cons_zero, List.set_cons_succ, i64_w, i32_w]
                  rfl
                refine pure_ (i := 4) (N := some 90) (v := ?_) (a' := ?_) #[true, true, true, true, true, false, false, false, false, false, false, false, false, false, false, false, false, false] rfl rfl (by kernel_rfl) (fun _ _ _ h => h) (Or.inl ⟨by rfl, ?_⟩) ?_ ?_
                rotate_left
                · intro w'
                  go_simp
                  with_reducible rfl
                rotate_left
                · simp only [Act.put, List.setIfInBounds_toArray, List.set_cons_zero, List.set_cons_succ, i64_w, i32_w]
                  rfl
                refine pure_ (i := 7) (N := some 93) (v := ?_) (a' := ?_) #[true, true, true, true, true, false, false, true, false, false, false, false, false, false, false, false, false, false] rfl rfl (by kernel_rfl) (fun _ _ _ h => h) (Or.inl ⟨by rfl, ?_⟩) ?_ ?_
                rotate_left
                · intro w'
                  go_simp
                  with_reducible rfl
                rotate_left
                · simp only [Act.put, List.setIfInBounds_toArray, List.set_cons_zero, List.set_cons_succ, i64_w, i32_w]
                  rfl
                refine pure_ (i := 8) (N := some 94) (v := ?_) (a' := ?_) #[true, true, true, true, true, false, false, true, true, false, false, false, false, false, false, false, false, false] rfl rfl (by kernel_rfl) (fun _ _ _ h => h) (Or.inl ⟨by rfl, ?_⟩) ?_ ?_
                rotate_left
                · intro w'
                  go_simp
                  with_reducible rfl
                rotate_left
                · simp only [Act.put, List.setIfInBounds_toArray, List.set_cons_zero, List.set_cons_succ, i64_w, i32_w]
                  rfl
                refine pure_ (i := 9) (N := some 95) (v := ?_) (a' := ?_) #[true, true, true, true, true, false, false, true, true, true, false, false, false, false, false, false, false, false] rfl rfl (by kernel_rfl) (fun _ _ _ h => h) (Or.inl ⟨by rfl, ?_⟩) ?_ ?_
                rotate_left
                · intro w'
                  go_simp
                  with_reducible rfl
                rotate_left
                · simp only [Act.put, List.setIfInBounds_toArray, List.set_cons_zero, List.set_cons_succ, i64_w, i32_w]
                  rfl
                refine pure_ (i := 10) (N := some 96) (v := ?_) (a' := ?_) #[true, true, true, true, true, false, false, true, true, true, true, false, false, false, false, false, false, false] rfl rfl (by kernel_rfl) (fun _ _ _ h => h) (Or.inl ⟨by rfl, ?_⟩) ?_ ?_
                rotate_left
                · intro w'
                  go_simp
                  with_reducible rfl
                rotate_left
                · simp only [Act.put, List.setIfInBounds_toArray, List.set_cons_zero, List.set_cons_succ, i64_w, i32_w]
                  rfl
                refine take_ (i := 11) (N := some 97) (v := ?_) (a' := ?_) #[true, true, true, true, true, false, false, true, true, true, true, true, false, false, false, false, false, false] rfl rfl (by kernel_rfl) (fun _ _ _ h => h) (Or.inl ⟨by rfl, ?_⟩) hHeld ?_ ?_
                rotate_left
                · rintro w' ⟨s0, s1⟩
                  go_simp
                  with_reducible rfl
                rotate_left
                · simp only [Act.put, List.setIfInBounds_toArray, List.set_cons_zero, List.set_cons_succ, i64_w, i32_w]
                  rfl
                refine pure_ (i := 12) (N := some 98) (v := ?_) (a' := ?_) #[true, true, true, true, true, false, false, true, true, true, true, true, true, false, false, false, false, false] rfl rfl (by kernel_rfl) (fun _ _ _ h => h) (Or.inl ⟨by rfl, ?_⟩) ?_ ?_
                rotate_left
                · intro w'
                  go_simp
                  with_reducible rfl
                rotate_left
                · simp only [Act.put, List.setIfInBounds_toArray, List.set_cons_zero, List.set_cons_succ, i64_w, i32_w]
                  rfl
                refine pure_ (i := 13) (N := some 99) (v := ?_) (a' := ?_) #[true, true, true, true, true, false, false, true, true, true, true, true, true, true, false, false, false, false] rfl rfl (by kernel_rfl) (fun _ _ _ h => h) (Or.inl ⟨by rfl, ?_⟩) ?_ ?_
                rotate_left
                · intro w'
                  go_simp
                  with_reducible rfl
                rotate_left
                · simp only [Act.put, List.setIfInBounds_toArray, List.set_cons_zero, List.set_cons_succ, i64_w, i32_w]
                  rfl
                refine take_ (i := 14) (N := some 100) (v := ?_) (a' := ?_) #[true, true, true, true, true, false, false, true, true, true, true, true, true, true, true, false, false, false] rfl rfl (by kernel_rfl) (fun _ _ _ h => h) (Or.inl ⟨by rfl, ?_⟩) hHeld ?_ ?_
                rotate_left
                · rintro w' ⟨s0, s1⟩
                  go_simp
                  with_reducible rfl
                rotate_left
                · simp only [Act.put, List.setIfInBounds_toArray, List.set_cons_zero, List.set_cons_succ, i64_w, i32_w]
                  rfl
                refine pure_ (i := 15) (N := some 101) (v := ?_) (a' := ?_) #[true, true, true, true, true, false, false, true, true, true, true, true, true, true, true, true, false, false] rfl rfl (by kernel_rfl) (fun _ _ _ h => h) (Or.inl ⟨by rfl, ?_⟩) ?_ ?_
                rotate_left
                · intro w'
                  go_simp
                  with_reducible rfl
                rotate_left
                · simp only [Act.put, List.setIfInBounds_toArray, List.set_cons_zero, List.set_cons_succ, i64_w, i32_w]
                  rfl
                clear hHeld zc1 zo
                generalize hW6 : W5.drew = W6 at HC5d HO5d ⊢
                have hal : Below w.heap.size w (W6.alloc (.cells #[.int .i64 (n : Int), .int .i64 (j : Int), .int .i64 (now : Int)] 66)) := below_alloc HC5d.out.bel _
                have HC6 := HC5d.out.below (below_alloc (Below.refl _ _) (.cells #[.int .i64 (n : Int), .int .i64 (j : Int), .int .i64 (now : Int)] 66))
                refine one_ (i := 5) (N := some 91) #[true, true, true, true, true, true, false, true, true, true, true, true, true, true, true, true, false, false] rfl rfl (by kernel_rfl) (by decide) (fun K hK => ?_)
                refine value_ (w1 := W6.alloc (.cells #[.int .i64 (n : Int), .int .i64 (j : Int), .int .i64 (now : Int)] 66)) (v := .slice (some ⟨W6.heap.size, 0, none⟩) 1 1) (by rfl) rfl (by first | (go_simp; done) | (go_simp; rfl)) ?_
                refine hK.out _ _ ⟨(blk_cell HC6.bc 1).trans rfl, VO.out _ HC6⟩ (fun _ => ?_)
                clear hK K hal HC6
                refine norm_ (a' := ?_) (by simp only [Act.put, List.setIfInBounds_toArray, List.set_cons_zero, List.set_cons_succ]; rfl) ?_
                refine one_ (i := 6) (N := some 92) #[true, true, true, true, true, true, true, true, true, true, true, true, true, true, true, true, false, false] rfl rfl (by kernel_rfl) (by decide) (fun K hK => ?_)
                refine Kd.R_append_step k66 (w0 := w) w.heap.size (by rfl) (.tmp 86) (.tmp 91) 43 66 (.agg #[(.int .i64 0), (.int .i64 0), (.int .i64 0)]) 24 rfl Try.underlying43 sch_info66 rfl (by decide) (by omega) (.slice Ao2 s.out.length co2) s.out (⟨(n : Int), (j : Int), (now : Int)⟩ : S66) [.int .i64 (n : Int), .int .i64 (j : Int), .int .i64 (now : Int)] (fun _ => True) (fun _ => False) rfl rfl (k66_mkM _ _ _ (⟨(n : Int), (j : Int), (now : Int)⟩ : S66)) (fun _ hk => hk.elim) (fun _ _ => trivial) HO5d.out HC5d.out.bel HC5d.out.bel.size (by have h1 := HOL.out; have h2 := HA.out; omega) ?_
                intro v1 W7 HR7 hb7 hg7 hat7
                have HC7 := Aside0.mk (CS.mk (blk_grown HC5d.out.bc hg7 (Kd.R_ne HO5d.out HC5d.out.bc (by decide))) (blk_grown HC5d.out.rf hg7 (Kd.R_ne HO5d.out HC5d.out.rf (by decide))) (blk_grown HC5d.out.ro hg7 (Kd.R_ne HO5d.out HC5d.out.ro (by decide))) hb7 HC5d.out.gef HC5d.out.ged HC5d.out.ne)
                have HO7 := Aside0.mk HR7
                refine hK.out _ _ ⟨(blk_cell HC7.out.bc 1).trans rfl, VO.out _ HC7.out⟩ (fun _ => ?_)
                clear hK K HR7 hb7 hg7 hat7
                change wpAnyLast _ _ _ _ _ _ _ _ (Act.put _ (some 92) v1) _
                refine norm_ (a' := ?_) (by simp only [Act.put, List.setIfInBounds_toArray, List.set_cons_zero, List.set_cons_succ]; rfl) ?_
                refine pure_ (i := 16) (N := some 8) (v := ?_) (a' := ?_) #[true, true, true, true, true, true, true, true, true, true, true, true, true, true, true, true, true, false] rfl rfl (by kernel_rfl) (fun _ _ _ h => h) (Or.inl ⟨by rfl, ?_⟩) ?_ ?_
                rotate_left
                · intro w'
                  go_simp
                  with_reducible rfl
                rotate_left
                · simp only [Act.put, List.setIfInBounds_toArray, List.set_cons_zero, List.set_cons_succ, i64_w, i32_w]
                  rfl
                refine pure_ (i := 17) (N := some 9) (v := ?_) (a' := ?_) #[true, true, true, true, true, true, true, true, true, true, true, true, true, true, true, true, true, true] rfl rfl (by kernel_rfl) (fun _ _ _ h => h) (Or.inl ⟨by rfl, ?_⟩) ?_ ?_
                rotate_left
                · intro w'
                  go_simp
                  with_reducible rfl
                rotate_left
                · simp only [Act.put, List.setIfInBounds_toArray, List.set_cons_zero, List.set_cons_succ, i64_w, i32_w]
                  rfl
                refine done_ (by kernel_rfl) ?_
                have HS3 := Aside0.mk (show scW l0 (now : Int) k2 (j + 1) ⟨s.free.set j ((now : Int) + lg), s.over.set n ((now : Int) + lg), s.out ++ [⟨(n : Int), (j : Int), (now : Int)⟩], max s.e ((now : Int) + lg)⟩ = sE by
                  rw [← HS2.out]; congr 1; unfold scStep
                  rw [if_neg (by have := HBU.out; omega), ← HTK.out, if_pos (by omega), ← HLG.out, Int.toNat_natCast])
                clear HS2
                go_wp2
                · go_roundg k2
                  case measure => omega
                  case rel => exact ⟨⟨s.free.set j ((now : Int) + lg), s.over.set n ((now : Int) + lg), s.out ++ [⟨(n : Int), (j : Int), (now : Int)⟩], max s.e ((now : Int) + lg)⟩, j + 1, by first | rfl | (show _ = Value.int .i64 (max s.e ((now : Int) + lg)); congr 1; omega), by first | rfl | (have := HA.out; congr 1; unfold wrap64; omega), ⟨by have := HJ.out; omega⟩, HS3, ⟨by rw [List.length_set, List.length_set]; exact HLN.out⟩, HC7, HO7, ⟨by rw [List.length_append]; have := HOL.out; simp only [List.length_singleton]; omega⟩⟩
                · go_roundg k2
                  case measure => omega
                  case rel => exact ⟨⟨s.free.set j ((now : Int) + lg), s.over.set n ((now : Int) + lg), s.out ++ [⟨(n : Int), (j : Int), (now : Int)⟩], max s.e ((now : Int) + lg)⟩, j + 1, by first | rfl | (show _ = Value.int .i64 (max s.e ((now : Int) + lg)); congr 1; omega), by first | rfl | (have := HA.out; congr 1; unfold wrap64; omega), ⟨by have := HJ.out; omega⟩, HS3, ⟨by rw [List.length_set, List.length_set]; exact HLN.out⟩, HC7, HO7, ⟨by rw [List.length_append]; have := HOL.out; simp only [List.length_singleton]; omega⟩⟩
              · have qn := decide_eq_false hneg
                have HS3 := Aside0.mk (show scW l0 (now : Int) k2 (j + 1) s = sE by rw [← HS2.out]; congr 1; unfold scStep; rw [if_neg (by have := HBU.out; omega), ← HTK.out, if_neg hneg])
                clear hneg HS2
                go_wp2
                go_roundg k2
                case measure => omega
                case rel => exact ⟨s, j + 1, rfl, by first | rfl | (have := HA.out; congr 1; unfold wrap64; omega), ⟨by have := HJ.out; omega⟩, HS3, HLN, HC3, HO3, ⟨by have := HOL.out; omega⟩⟩
          · obtain rfl : j = na := by have := HJ.out; omega
            obtain rfl : gk = 0 := by have := HJ.out; omega
            have hs : s = sE := HS.out
            subst hs
            clear HS
            go_wp2
            go_roundg k1
            case measure => omega
            case rel => exact ⟨s, now + 1, rfl, by first | rfl | (have := HNOW.out; congr 1; unfold wrap64; omega), H2, HLN, HC, HO⟩
      · rw [if_neg hlt] at h
        simp only [Option.some.injEq, Prod.mk.injEq] at h
        obtain ⟨rfl, rfl, rfl⟩ := h
        have qlt : decide (st.out.length < l0.length) = false := decide_eq_false hlt
        clear hlt H
        go_wp2
        go_ret3
        exact ⟨_, rfl, HO.out, by repeat (first | exact HC.out.bel | apply pw_below_drewN | apply below_drew1 | apply below_drew)⟩

end Go.Proofs.Ytpgegjbnnbkhiaa.PFnExactScheduleOf
