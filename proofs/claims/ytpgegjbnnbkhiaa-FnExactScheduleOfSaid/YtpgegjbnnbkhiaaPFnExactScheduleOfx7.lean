-- written by xprint.py (a program of this session's, over the kit's print): printed functions, and some by hand
import Derived.Test.YtpgegjbnnbkhiaaPFnExactScheduleOfx0
import Derived.Test.YtpgegjbnnbkhiaaPFnExactScheduleOfx6
namespace Go.Proofs.Ytpgegjbnnbkhiaa.PFnExactScheduleOf
open Go.RowKit Go.Proofs.YtpgegjbnnbkhiaaW.PrintWords Go.Proofs.YtpgegjbnnbkhiaaW.PrintLast Go.Proofs.YtpgegjbnnbkhiaaW.PrintMore
attribute [local go_sem] max2_int min2_int max_two min_two max_three min_three max_four min_four   -- for this text's walks alone
set_option linter.unusedVariables false
set_option linter.unusedSimpArgs false

/-! ### impl_workersOk: function 59 -/
def impl_workersOk.f (a0 : Int) : Option (Bool) := (impl_in.f a0 1 8).bind fun t200 => (some t200)
set_option maxHeartbeats 8000000 in
set_option maxRecDepth 100000 in
theorem impl_workersOk.calls (a0 : Int) (r : Bool) (w : World) (h : impl_workersOk.f a0 = some r) :
    Calls Try.prog 59 #[.int .i64 a0] w fun e w' => e = .returned (.bool r) ∧ Drawn0 w w' := by
  have H : ((impl_in.f a0 1 8).bind fun t200 => (some t200)) = some r := h
  clear h
  replace H := Option.bind_eq_some_iff.mp H
  obtain ⟨t200, A20, H⟩ := H
  replace H : (some t200) = some r := H
  have A2 := Aside0.mk A20
  clear A20
  obtain rfl := Option.some.inj H
  go_enter Try.func59, Try.ntmps59
  go_wp2_with (first | ((with_reducible refine gate_callee (f := 48) rfl ?_); refine goesL_ (some 4) rfl rfl Try.func48 (by kernel_rfl) rfl #[.int .i64 a0, .int .i64 1, .int .i64 8] rfl (by (try simp only [List.map_toArray, List.map_cons, List.map_nil]); first | done | rfl | (simp only [List.length_drop, List.length_take]; rfl)) ?_; (with_reducible refine (impl_in.calls a0 1 8 t200 _ A2.out).mono ?_); rintro e w' ⟨rfl, ⟨nd, rfl⟩⟩; refine ⟨_, rfl, ?_⟩))
  go_ret
  exact ⟨by first | rfl | (simp; done) | (simp [*]; done), by repeat (first | exact Drawn0.refl _ | apply Drawn0.step)⟩

/-! ### bits_Mul32: function 74 -/
def bits_Mul32.f (a0 : Int) (a1 : Int) : Option (Int × Int) := some (((IntKind.u64.wrap ((IntKind.u64.wrap (a0)) * (IntKind.u64.wrap (a1)))) / 4294967296) % 4294967296, (IntKind.u64.wrap ((IntKind.u64.wrap (a0)) * (IntKind.u64.wrap (a1)))) % 4294967296)
set_option maxHeartbeats 8000000 in
set_option maxRecDepth 100000 in
theorem bits_Mul32.calls (a0 : Int) (a1 : Int) (r1 : Int) (r2 : Int) (w : World) (h : bits_Mul32.f a0 a1 = some (r1, r2)) :
    Calls Try.prog 74 #[.int .u32 a0, .int .u32 a1] w fun e w' => e = .returned (.tuple #[.int .u32 r1, .int .u32 r2]) ∧ Drawn0 w w' := by
  have H : (some (((IntKind.u64.wrap ((IntKind.u64.wrap (a0)) * (IntKind.u64.wrap (a1)))) / 4294967296) % 4294967296, (IntKind.u64.wrap ((IntKind.u64.wrap (a0)) * (IntKind.u64.wrap (a1)))) % 4294967296)) = some (r1, r2) := h
  clear h
  simp only [Option.some.injEq, Prod.mk.injEq] at H
  obtain ⟨rfl, rfl⟩ := H
  go_enter Try.func74, Try.ntmps74
  go_wp2
  go_ret2
  exact ⟨by first | rfl | (simp; done) | (simp [*]; done), by repeat (first | exact Drawn0.refl _ | apply Drawn0.step)⟩

/-! ### bits_Mul64: function 75 -/
def bits_Mul64.f (a0 : Int) (a1 : Int) : Option (Int × Int) := some (IntKind.u64.wrap ((IntKind.u64.wrap ((IntKind.u64.wrap ((a0 / 4294967296) * (a1 / 4294967296))) + ((IntKind.u64.wrap ((IntKind.u64.wrap ((a0 / 4294967296) * (Go.bits .and .u64 a1 4294967295))) + ((IntKind.u64.wrap ((Go.bits .and .u64 a0 4294967295) * (Go.bits .and .u64 a1 4294967295))) / 4294967296))) / 4294967296))) + ((IntKind.u64.wrap ((Go.bits .and .u64 (IntKind.u64.wrap ((IntKind.u64.wrap ((a0 / 4294967296) * (Go.bits .and .u64 a1 4294967295))) + ((IntKind.u64.wrap ((Go.bits .and .u64 a0 4294967295) * (Go.bits .and .u64 a1 4294967295))) / 4294967296))) 4294967295) + (IntKind.u64.wrap ((Go.bits .and .u64 a0 4294967295) * (a1 / 4294967296))))) / 4294967296)), IntKind.u64.wrap (a0 * a1))
set_option maxHeartbeats 8000000 in
set_option maxRecDepth 100000 in
theorem bits_Mul64.calls (a0 : Int) (a1 : Int) (r1 : Int) (r2 : Int) (w : World) (h : bits_Mul64.f a0 a1 = some (r1, r2)) :
    Calls Try.prog 75 #[.int .u64 a0, .int .u64 a1] w fun e w' => e = .returned (.tuple #[.int .u64 r1, .int .u64 r2]) ∧ Drawn0 w w' := by
  have H : (some (IntKind.u64.wrap ((IntKind.u64.wrap ((IntKind.u64.wrap ((a0 / 4294967296) * (a1 / 4294967296))) + ((IntKind.u64.wrap ((IntKind.u64.wrap ((a0 / 4294967296) * (Go.bits .and .u64 a1 4294967295))) + ((IntKind.u64.wrap ((Go.bits .and .u64 a0 4294967295) * (Go.bits .and .u64 a1 4294967295))) / 4294967296))) / 4294967296))) + ((IntKind.u64.wrap ((Go.bits .and .u64 (IntKind.u64.wrap ((IntKind.u64.wrap ((a0 / 4294967296) * (Go.bits .and .u64 a1 4294967295))) + ((IntKind.u64.wrap ((Go.bits .and .u64 a0 4294967295) * (Go.bits .and .u64 a1 4294967295))) / 4294967296))) 4294967295) + (IntKind.u64.wrap ((Go.bits .and .u64 a0 4294967295) * (a1 / 4294967296))))) / 4294967296)), IntKind.u64.wrap (a0 * a1))) = some (r1, r2) := h
  clear h
  simp only [Option.some.injEq, Prod.mk.injEq] at H
  obtain ⟨rfl, rfl⟩ := H
  go_enter Try.func75, Try.ntmps75
  go_wp2
  go_ret2
  exact ⟨by first | rfl | (simp; done) | (simp [*]; done), by repeat (first | exact Drawn0.refl _ | apply Drawn0.step)⟩

/-! ### bits_Mul: function 71 -/
def bits_Mul.f (a0 : Int) (a1 : Int) : Option (Int × Int) := (bits_Mul64.f a0 a1).bind fun bt201 => (some (bt201.1, bt201.2))
set_option maxHeartbeats 8000000 in
set_option maxRecDepth 100000 in
theorem bits_Mul.calls (a0 : Int) (a1 : Int) (r1 : Int) (r2 : Int) (w : World) (h : bits_Mul.f a0 a1 = some (r1, r2)) :
    Calls Try.prog 71 #[.int .u64 a0, .int .u64 a1] w fun e w' => e = .returned (.tuple #[.int .u64 r1, .int .u64 r2]) ∧ Drawn0 w w' := by
  have H : ((bits_Mul64.f a0 a1).bind fun bt201 => (some (bt201.1, bt201.2))) = some (r1, r2) := h
  clear h
  replace H := Option.bind_eq_some_iff.mp H
  obtain ⟨⟨t201, t202⟩, A30, H⟩ := H
  replace H : (some (t201, t202)) = some (r1, r2) := H
  have A3 := Aside0.mk A30
  clear A30
  simp only [Option.some.injEq, Prod.mk.injEq] at H
  obtain ⟨rfl, rfl⟩ := H
  go_enter Try.func71, Try.ntmps71
  go_wp2_with (first | ((with_reducible refine gate_callee (f := 75) rfl ?_); refine goesL_ (some 25) rfl rfl Try.func75 (by kernel_rfl) rfl #[.int .u64 a0, .int .u64 a1] rfl (by (try simp only [List.map_toArray, List.map_cons, List.map_nil]); first | done | rfl | (simp only [List.length_drop, List.length_take]; rfl)) ?_; (with_reducible refine (bits_Mul64.calls a0 a1 t201 t202 _ A3.out).mono ?_); rintro e w' ⟨rfl, ⟨nd, rfl⟩⟩; refine ⟨_, rfl, ?_⟩))
  go_ret2
  exact ⟨by first | rfl | (simp; done) | (simp [*]; done), by repeat (first | exact Drawn0.refl _ | apply Drawn0.step)⟩

/-! ### slices_Repeat_int_int: function 62, by hand; a text alone -/
theorem rep_made_ints (m : Nat) : (madeCells #[Value.int .i64 0] m).toList = encs (Value.int .i64) (List.replicate m 0) := by
  apply List.ext_getElem
  · simp [encs, madeCells]
  · intro i h1 h2
    simp [encs, madeCells, Nat.mod_one]
theorem mul_table : (List.range 31).all (fun n => decide (bits_Mul.f 1 (n : Int) = some (0, (n : Int)))) = true := by kernel_rfl
theorem mul_one_n (n : Nat) (hn : n ≤ 30) : bits_Mul.f 1 (n : Int) = some (0, (n : Int)) := of_decide_eq_true (List.all_eq_true.1 mul_table n (by simp; omega))
theorem rel2 {w W w1 : World} (h : Below w.heap.size w W) (hb : Below W.heap.size W w1) : Below w.heap.size w w1 := below_then h h.size hb
/-- m numbers -1, the rest as made -/
def repRow (n m : Nat) : List Value := List.replicate m (.int .i64 (-1)) ++ List.replicate (n - m) (.int .i64 0)
theorem repRow_length {n m : Nat} (h : m ≤ n) : (repRow n m).length = n := by unfold repRow; simp; omega
theorem repRow_splice {n m c : Nat} (h : m + c ≤ n) : splice (repRow n m) m (List.replicate c (.int .i64 (-1))) = repRow n (m + c) := by
  unfold splice repRow
  rw [List.take_append_of_le_length (by simp), List.take_of_length_le (by simp), List.length_replicate, List.drop_append, List.drop_of_length_le (by simp)]
  simp only [List.length_replicate, List.nil_append, List.drop_replicate, Nat.add_sub_cancel_left]
  rw [← List.append_assoc, List.replicate_append_replicate, show n - m - c = n - (m + c) by omega]
theorem repRow_zero (n : Nat) : (madeCells #[Value.int .i64 0] n) = (repRow n 0).toArray := by
  apply Array.toList_inj.1
  rw [rep_made_ints]
  simp [repRow, encs]
theorem repRow_cell {n m : Nat} {w : World} {g : Nat} (h : w.heap[g]? = some (.cells (repRow n m).toArray 3 (0, 0))) (j : Nat) (hj : j < m) : w.cell? ⟨g, j, none⟩ = some (.int .i64 (-1)) := by
  rw [blk_cell h j]
  unfold repRow
  rw [List.getElem?_toArray, List.getElem?_append_left (by simpa using hj)]
  simp [hj]
theorem rep_cells {c : Nat} (j : Nat) (v : Value) (h : (List.replicate c (Value.int .i64 (-1)))[j]? = some v) : j < c ∧ v = .int .i64 (-1) := by
  rw [List.getElem?_replicate] at h
  split at h
  · rename_i hj; exact ⟨hj, (Option.some.inj h).symm⟩
  · cases h
theorem rep_one {c : Nat} : ∀ v ∈ (List.replicate c (Value.int .i64 (-1))), v.oneCell' = true := fun v hv => by rw [(List.mem_replicate.1 hv).2]; rfl
set_option maxHeartbeats 8000000 in
set_option maxRecDepth 100000 in
theorem slices_Repeat_one (gx cx : Nat) (n : Nat) (hn : n ≤ 30) (w : World) (hx : w.heap[gx]? = some (.cells #[.int .i64 (-1)] 3 (0, 0))) :
    Calls Try.prog 62 #[.slice (some ⟨gx, 0, none⟩) 1 cx, .int .i64 n] w fun e w' => ∃ gd : Nat, e = .returned (.slice (some ⟨gd, 0, none⟩) n n) ∧ w.heap.size ≤ gd ∧ w'.heap[gd]? = some (.cells (repRow n n).toArray 3 (0, 0)) ∧ Below w.heap.size w w' := by
  have hu29 := Try.underlying29
  have hmk := print_make_of (P := Try.prog) 29 3 (.int .i64 0) 8 hu29 rfl rfl (by decide) n (by omega)
  have HM := Aside0.mk (mul_one_n n hn)
  have HX := Aside0.mk hx
  clear hx
  go_enter Try.func62, Try.ntmps62
  go_wp2_with fail
  refine (bits_Mul.calls 1 (n : Int) 0 (n : Int) _ HM.out).mono ?_
  rintro e w1 ⟨rfl, hd⟩
  have HB := Aside0.mk hd.below
  have HX1 := Aside0.mk (blk_below HX.out hd.below)
  have hg0 := heap_alloc_new w1 (.cells (madeCells #[.int .i64 0] n) 3)
  rw [repRow_zero] at hg0
  have HG0 := Aside0.mk hg0
  have HXX := Aside0.mk (blk_alloc HX1.out (.cells (repRow n 0).toArray 3))
  have HW := Aside0.mk (repRow_zero n)
  clear hd hg0
  go_wp2_with (first | ((with_reducible refine gate_dst (N := 33) rfl ?_); generalize hst : (wpList Try.prog) = ST))
  subst hst
  rw [HW.out]
  refine wpList_copy_splice rfl (.tmp 31) (.tmp 32) 29 29 rfl 3 hu29 (by kernel_rfl) _ _ n n 1 cx rfl rfl w1.heap.size 0 (repRow n 0) 3 HG0.out (List.replicate (Nat.min 1 n) (.int .i64 (-1))) (by rw [List.length_replicate]) (fun _ => ⟨rfl, _, rfl, fun j v h => ?hc⟩) (by rw [List.length_replicate, repRow_length (Nat.zero_le _), Nat.zero_add]; exact Nat.min_le_right _ _) rep_one w1.heap.size w1 (below_alloc (Below.refl _ _) _) (Nat.le_refl _) ?_
  case hc =>
    obtain ⟨hj, rfl⟩ := rep_cells j v h
    obtain rfl : j = 0 := by have h1 : Nat.min 1 n ≤ 1 := Nat.min_le_left 1 n; omega
    exact (blk_cell HXX.out 0).trans rfl
  intro w2 hH hb2
  have hH2 := hH.out
  rw [repRow_splice (by have h1 : Nat.min 1 n ≤ n := Nat.min_le_right 1 n; omega), Nat.zero_add] at hH2
  have HG := Aside0.mk hH2
  have HB2 := Aside0.mk (rel2 HB.out hb2)
  have HS := Aside0.mk HB.out.size
  obtain ⟨m0, hm0⟩ : ∃ m, m = Nat.min 1 n := ⟨_, rfl⟩
  rw [← hm0] at HG ⊢
  have HM0 := Aside0.mk hm0
  clear hH hH2 hb2 HG0 HXX hm0
  rw [show (List.replicate m0 (Value.int .i64 (-1))).length = m0 from List.length_replicate]
  go_wp2_with fail
  go_loopg [8] n (fun kq v8 w' => ∃ m : Nat, v8 = .int .i64 (m : Int) ∧ Aside0 (m ≤ n ∧ n ≤ m + kq ∧ (m = 0 → n = 0)) ∧ Aside0 (w'.heap[w1.heap.size]? = some (.cells (repRow n m).toArray 3 (0, 0))) ∧ Aside0 (Below w.heap.size w w'))
  case atStart =>
    refine ⟨m0, rfl, ⟨?_⟩, HG, HB2⟩
    have h1 : m0 = Nat.min 1 n := HM0.out
    have h2 : Nat.min 1 n ≤ n := Nat.min_le_right 1 n
    rcases Nat.eq_zero_or_pos n with h | h
    · subst h; omega
    · have h3 : Nat.min 1 n = 1 := Nat.min_eq_left h
      omega
  case round =>
    obtain ⟨m, rfl, HL, HR, HB3⟩ := hrel
    by_cases hlt : m < n
    · go_wp2_with fail
      refine start_ (n := 10) (S := fun _ => True) (ds := [7]) #[false, false, false, false, false, false, false, false, false, false] (by kernel_rfl) rfl rfl trivial (fun hHeld => ?_)
      refine pure_ (i := 0) (N := some 38) (v := ?_) (a' := ?_) #[true, false, false, false, false, false, false, false, false, false] rfl rfl (by kernel_rfl) (fun _ _ _ h => h) (Or.inl ⟨by rfl, ?_⟩) ?_ ?_
      rotate_left
      · intro w'
        go_simp
        with_reducible rfl
      rotate_left
      · simp only [Act.put, List.setIfInBounds_toArray, List.set_cons_zero, List.set_cons_succ, i64_w, i32_w]
        rfl
      refine pure_ (i := 1) (N := some 39) (v := ?_) (a' := ?_) #[true, true, false, false, false, false, false, false, false, false] rfl rfl (by kernel_rfl) (fun _ _ _ h => h) (Or.inl ⟨by rfl, ?_⟩) ?_ ?_
      rotate_left
      · intro w'
        go_simp
        with_reducible rfl
      rotate_left
      · simp only [Act.put, List.setIfInBounds_toArray, List.set_cons_zero, List.set_cons_succ, i64_w, i32_w]
        rfl
      refine pure_ (i := 2) (N := some 40) (v := ?_) (a' := ?_) #[true, true, true, false, false, false, false, false, false, false] rfl rfl (by kernel_rfl) (fun _ _ _ h => h) (Or.inl ⟨by rfl, ?_⟩) ?_ ?_
      rotate_left
      · intro w'
        go_simp
        with_reducible rfl
      rotate_left
      · simp only [Act.put, List.setIfInBounds_toArray, List.set_cons_zero, List.set_cons_succ, i64_w, i32_w]
        rfl
      refine pure_ (i := 3) (N := some 41) (v := ?_) (a' := ?_) #[true, true, true, true, false, false, false, false, false, false] rfl rfl (by kernel_rfl) (fun _ _ _ h => h) (Or.inl ⟨by rfl, ?_⟩) ?_ ?_
      rotate_left
      · intro w'
        go_simp
        rw [if_pos (by omega : m ≤ n), if_neg (by omega : ¬ n = m)]
      rotate_left
      · simp only [Act.put, List.setIfInBounds_toArray, List.set_cons_zero, List.set_cons_succ, i64_w, i32_w]
        rfl
      refine pure_ (i := 4) (N := some 42) (v := ?_) (a' := ?_) #[true, true, true, true, true, false, false, false, false, false] rfl rfl (by kernel_rfl) (fun _ _ _ h => h) (Or.inl ⟨by rfl, ?_⟩) ?_ ?_
      rotate_left
      · intro w'
        go_simp
        with_reducible rfl
      rotate_left
      · simp only [Act.put, List.setIfInBounds_toArray, List.set_cons_zero, List.set_cons_succ, i64_w, i32_w]
        rfl
      refine pure_ (i := 5) (N := some 43) (v := ?_) (a' := ?_) #[true, true, true, true, true, true, false, false, false, false] rfl rfl (by kernel_rfl) (fun _ _ _ h => h) (Or.inl ⟨by rfl, ?_⟩) ?_ ?_
      rotate_left
      · intro w'
        go_simp
        with_reducible rfl
      rotate_left
      · simp only [Act.put, List.setIfInBounds_toArray, List.set_cons_zero, List.set_cons_succ, i64_w, i32_w]
        rfl
      refine pure_ (i := 6) (N := some 44) (v := ?_) (a' := ?_) #[true, true, true, true, true, true, true, false, false, false] rfl rfl (by kernel_rfl) (fun _ _ _ h => h) (Or.inl ⟨by rfl, ?_⟩) ?_ ?_
      rotate_left
      · intro w'
        go_simp
        rw [if_pos (by omega : m ≤ n)]
      rotate_left
      · simp only [Act.put, List.setIfInBounds_toArray, List.set_cons_zero, List.set_cons_succ, i64_w, i32_w]
        rfl
      refine last_ (i := 7) (N := some 45) #[true, true, true, true, true, true, true, true, false, false] rfl rfl (by kernel_rfl) (by decide) (fun K hK => ?_)
      refine step_copy_splice rfl (.tmp 41) (.tmp 44) 29 29 rfl 3 hu29 (by kernel_rfl) _ _ (n - m) (n - m) m n rfl rfl w1.heap.size m (repRow n m) 3 (by exact HR.out) (List.replicate (Nat.min m (n - m)) (.int .i64 (-1))) (by rw [List.length_replicate]) (fun _ => ⟨rfl, _, rfl, fun j v h => ?hc⟩) (by rw [List.length_replicate, repRow_length (by omega)]; have h1 : Nat.min m (n - m) ≤ n - m := Nat.min_le_right _ _; omega) rep_one w.heap.size w ?hbel HS.out ?_
      case hc =>
        obtain ⟨hj, rfl⟩ := rep_cells j v h
        have h1 : Nat.min m (n - m) ≤ m := Nat.min_le_left _ _
        have h2 := repRow_cell HR.out j (by omega)
        rcases Nat.eq_zero_or_pos j with h0 | h0
        · subst h0; simpa [Addr.add] using h2
        · simpa [Addr.add, show ¬ j = 0 by omega] using h2
      case hbel => exact below_drew HB3.out
      intro w3 hH hb3
      refine hK.out _ _ ?_
      clear hK K
      change wpAnyLast _ _ _ _ _ _ _ _ (Act.put _ (some 45) (.int .i64 _)) _
      have hH3 := hH.out
      rw [repRow_splice (by have h1 : Nat.min m (n - m) ≤ n - m := Nat.min_le_right _ _; omega)] at hH3
      rw [show (List.replicate (Nat.min m (n - m)) (Value.int .i64 (-1))).length = Nat.min m (n - m) from List.length_replicate]
      obtain ⟨c, hc⟩ : ∃ c, c = Nat.min m (n - m) := ⟨_, rfl⟩
      have HCC := Aside0.mk (show c ≤ n - m ∧ (1 ≤ m → 1 ≤ c) by
        refine ⟨hc ▸ Nat.min_le_right _ _, fun h => ?_⟩
        rw [hc]
        exact Nat.le_min.2 ⟨h, by omega⟩)
      rw [← hc] at hH3 ⊢
      have HR3 := Aside0.mk hH3
      have HB4 := Aside0.mk hb3
      clear hH hH3 hb3 hc
      simp only [Act.put, List.setIfInBounds_toArray, List.set_cons_zero, List.set_cons_succ, i64_w, i32_w]
      refine pure_ (i := 8) (N := some 46) (v := ?_) (a' := ?_) #[true, true, true, true, true, true, true, true, true, false] rfl rfl (by kernel_rfl) (fun _ _ _ h => h) (Or.inl ⟨by rfl, ?_⟩) ?_ ?_
      rotate_left
      · intro w'
        go_simp
        with_reducible rfl
      rotate_left
      · simp only [Act.put, List.setIfInBounds_toArray, List.set_cons_zero, List.set_cons_succ, i64_w, i32_w]
        rfl
      refine pure_ (i := 9) (N := some 8) (v := ?_) (a' := ?_) #[true, true, true, true, true, true, true, true, true, true] rfl rfl (by kernel_rfl) (fun _ _ _ h => h) (Or.inl ⟨by rfl, ?_⟩) ?_ ?_
      rotate_left
      · intro w'
        go_simp
        with_reducible rfl
      rotate_left
      · simp only [Act.put, List.setIfInBounds_toArray, List.set_cons_zero, List.set_cons_succ, i64_w, i32_w]
        rfl
      refine done_ (by kernel_rfl) ?_
      clear hHeld
      cases gk with
      | zero => exact absurd HL.out (by omega)
      | succ k1 =>
        go_wp2
        go_roundg k1
        case measure => omega
        case rel =>
          have h1 := HL.out
          have h2 := HCC.out
          have h3 : wrap64 ((m : Int) + (c : Int)) = ((m + c : Nat) : Int) := by unfold wrap64; omega
          refine ⟨m + c, by rw [h3], ⟨?_⟩, HR3, HB4⟩
          omega
    · have hmn : m = n := by have := HL.out; omega
      subst hmn
      go_wp2
      go_ret
      exact ⟨w1.heap.size, rfl, HS.out, HR.out, HB3.out⟩

/-! ### impl_crew_ready: function 63, by hand; a text alone -/
def rdyLate (over : List Int) (now n : Int) : Bool := decide (rdOf 0 over n < 0) || decide (now < rdOf 0 over n)
set_option maxHeartbeats 8000000 in
set_option maxRecDepth 100000 in
theorem ready_clo (gp gn gc go m : Nat) (vf : Value) (over : List Int) (now : Int) (W : World) (hbp : W.heap[gp]? = some (.cells #[.pointer (some ⟨gc, 0, none⟩)] 72 (0, 0))) (hbn : W.heap[gn]? = some (.cells #[.int .i64 now] 3 (0, 0)))
    (hbc : W.heap[gc]? = some (.cells #[vf, .slice (some ⟨go, 0, none⟩) m m] 75 (0, 0))) (hr : W.heap[go]? = some (.cells (encs (Value.int .i64) over).toArray 3 (0, 0))) (hfl : over.length = m) (n : Int) (h0 : 0 ≤ n) (h1 : n < m) :
    Calls Try.prog 72 (#[.int .i64 n] ++ #[.pointer (some ⟨gp, 0, none⟩), .pointer (some ⟨gn, 0, none⟩)]) W fun e w' => e = .returned (.bool (rdyLate over now n)) ∧ Below W.heap.size W w' := by
  have zp : W.cell? ⟨gp, 0, none⟩ = some (.pointer (some ⟨gc, 0, none⟩)) := (blk_cell hbp 0).trans rfl
  have zn : W.cell? ⟨gn, 0, none⟩ = some (.int .i64 now) := (blk_cell hbn 0).trans rfl
  have zc : W.cell? ⟨gc, 1, none⟩ = some (.slice (some ⟨go, 0, none⟩) m m) := (blk_cell hbc 1).trans rfl
  have rn : W.cell? ⟨go, n.toNat, none⟩ = some (.int .i64 (rdOf 0 over n)) := by
    rw [blk_cell hr, List.getElem?_toArray]
    unfold encs rdOf
    rw [List.getElem?_map, List.getD_eq_getElem?_getD, List.getElem?_eq_getElem (by omega)]
    rfl
  unfold rdyLate
  obtain ⟨a, ha⟩ : ∃ b, b = rdOf 0 over n := ⟨_, rfl⟩
  rw [← ha] at rn ⊢
  have p0 := eq_true h0
  have p1 := eq_true h1
  have hu29 := Try.underlying29
  have hu72 := Try.underlying72
  have hu75 := Try.underlying75
  clear hbp hbn hbc hr hfl ha h0 h1
  go_enter Try.func72, Try.ntmps72
  go_wp2
  by_cases c : a < 0
  · have hd := decide_eq_true c
    have HD := Aside0.mk hd
    clear c
    refine start_ (n := 20) (S := fun w' => w'.cell? ⟨gp, 0, none⟩ = some (.pointer (some ⟨gc, 0, none⟩)) ∧ w'.cell? ⟨gc, 1, none⟩ = some (.slice (some ⟨go, 0, none⟩) m m) ∧ w'.cell? ⟨go, n.toNat, none⟩ = some (.int .i64 a) ∧ w'.cell? ⟨gn, 0, none⟩ = some (.int .i64 now)) (ds := []) #[false, false, false, false, false, false, false, false, false, false, false, false, false, false, false, false, false, false, false, false] (by kernel_rfl) rfl rfl ⟨zp, zc, rn, zn⟩ (fun hHeld => ?_)
    refine take_ (i := 0) (N := some 5) (v := ?_) (a' := ?_) #[true, false, false, false, false, false, false, false, false, false, false, false, false, false, false, false, false, false, false, false] rfl rfl (by kernel_rfl) (fun _ _ _ h => h) (Or.inl ⟨by rfl, ?_⟩) hHeld ?_ ?_
    rotate_left
    · rintro w' ⟨s0, s1, s2, s3⟩
      go_simp
      with_reducible rfl
    rotate_left
    · simp only [Act.put, List.setIfInBounds_toArray, List.set_cons_zero, List.set_cons_succ, i64_w, i32_w]
      rfl
    refine pure_ (i := 1) (N := some 6) (v := ?_) (a' := ?_) #[true, true, false, false, false, false, false, false, false, false, false, false, false, false, false, false, false, false, false, false] rfl rfl (by kernel_rfl) (fun _ _ _ h => h) (Or.inl ⟨by rfl, ?_⟩) ?_ ?_
    rotate_left
    · intro w'
      go_simp
      with_reducible rfl
    rotate_left
    · simp only [Act.put, List.setIfInBounds_toArray, List.set_cons_zero, List.set_cons_succ, i64_w, i32_w]
      rfl
    refine pure_ (i := 2) (N := some 7) (v := ?_) (a' := ?_) #[true, true, true, false, false, false, false, false, false, false, false, false, false, false, false, false, false, false, false, false] rfl rfl (by kernel_rfl) (fun _ _ _ h => h) (Or.inl ⟨by rfl, ?_⟩) ?_ ?_
    rotate_left
    · intro w'
      go_simp
      with_reducible rfl
    rotate_left
    · simp only [Act.put, List.setIfInBounds_toArray, List.set_cons_zero, List.set_cons_succ, i64_w, i32_w]
      rfl
    refine take_ (i := 3) (N := some 8) (v := ?_) (a' := ?_) #[true, true, true, true, false, false, false, false, false, false, false, false, false, false, false, false, false, false, false, false] rfl rfl (by kernel_rfl) (fun _ _ _ h => h) (Or.inl ⟨by rfl, ?_⟩) hHeld ?_ ?_
    rotate_left
    · rintro w' ⟨s0, s1, s2, s3⟩
      go_simp
      with_reducible rfl
    rotate_left
    · simp only [Act.put, List.setIfInBounds_toArray, List.set_cons_zero, List.set_cons_succ, i64_w, i32_w]
      rfl
    refine pure_ (i := 4) (N := some 9) (v := ?_) (a' := ?_) #[true, true, true, true, true, false, false, false, false, false, false, false, false, false, false, false, false, false, false, false] rfl rfl (by kernel_rfl) (fun _ _ _ h => h) (Or.inl ⟨by rfl, ?_⟩) ?_ ?_
    rotate_left
    · intro w'
      go_simp
      with_reducible rfl
    rotate_left
    · simp only [Act.put, List.setIfInBounds_toArray, List.set_cons_zero, List.set_cons_succ, i64_w, i32_w]
      rfl
    refine pure_ (i := 5) (N := some 10) (v := ?_) (a' := ?_) #[true, true, true, true, true, true, false, false, false, false, false, false, false, false, false, false, false, false, false, false] rfl rfl (by kernel_rfl) (fun _ _ _ h => h) (Or.inl ⟨by rfl, ?_⟩) ?_ ?_
    rotate_left
    · intro w'
      go_simp
      with_reducible rfl
    rotate_left
    · simp only [Act.put, List.setIfInBounds_toArray, List.set_cons_zero, List.set_cons_succ, i64_w, i32_w]
      rfl
    refine take_ (i := 6) (N := some 11) (v := ?_) (a' := ?_) #[true, true, true, true, true, true, true, false, false, false, false, false, false, false, false, false, false, false, false, false] rfl rfl (by kernel_rfl) (fun _ _ _ h => h) (Or.inl ⟨by rfl, ?_⟩) hHeld ?_ ?_
    rotate_left
    · rintro w' ⟨s0, s1, s2, s3⟩
      go_simp
      with_reducible rfl
    rotate_left
    · simp only [Act.put, List.setIfInBounds_toArray, List.set_cons_zero, List.set_cons_succ, i64_w, i32_w]
      rfl
    refine pure_ (i := 7) (N := some 12) (v := ?_) (a' := ?_) #[true, true, true, true, true, true, true, true, false, false, false, false, false, false, false, false, false, false, false, false] rfl rfl (by kernel_rfl) (fun _ _ _ h => h) (Or.inl ⟨by rfl, ?_⟩) ?_ ?_
    rotate_left
    · intro w'
      go_simp
      with_reducible rfl
    rotate_left
    · simp only [Act.put, List.setIfInBounds_toArray, List.set_cons_zero, List.set_cons_succ, i64_w, i32_w]
      rfl
    refine pure_ (i := 8) (N := some 13) (v := ?_) (a' := ?_) #[true, true, true, true, true, true, true, true, true, false, false, false, false, false, false, false, false, false, false, false] rfl rfl (by kernel_rfl) (fun _ _ _ h => h) (Or.inl ⟨by rfl, ?_⟩) ?_ ?_
    rotate_left
    · intro w'
      go_simp
      with_reducible rfl
    rotate_left
    · simp only [Act.put, List.setIfInBounds_toArray, List.set_cons_zero, List.set_cons_succ, i64_w, i32_w]
      rfl
    refine pure_ (i := 9) (N := some 14) (v := undef) (a' := ?_) #[true, true, true, true, true, true, true, true, true, true, false, false, false, false, false, false, false, false, false, false] rfl rfl (by kernel_rfl) (fun _ _ _ h => h) (Or.inr ⟨by rfl, rfl⟩) ?_ ?_
    rotate_left
    · simp only [Act.put, List.setIfInBounds_toArray, List.set_cons_zero, List.set_cons_succ, i64_w, i32_w]
      rfl
    refine pure_ (i := 10) (N := some 15) (v := undef) (a' := ?_) #[true, true, true, true, true, true, true, true, true, true, true, false, false, false, false, false, false, false, false, false] rfl rfl (by kernel_rfl) (fun _ _ _ h => h) (Or.inr ⟨by rfl, rfl⟩) ?_ ?_
    rotate_left
    · simp only [Act.put, List.setIfInBounds_toArray, List.set_cons_zero, List.set_cons_succ, i64_w, i32_w]
      rfl
    refine pure_ (i := 11) (N := some 16) (v := undef) (a' := ?_) #[true, true, true, true, true, true, true, true, true, true, true, true, false, false, false, false, false, false, false, false] rfl rfl (by kernel_rfl) (fun _ _ _ h => h) (Or.inr ⟨by rfl, rfl⟩) ?_ ?_
    rotate_left
    · simp only [Act.put, List.setIfInBounds_toArray, List.set_cons_zero, List.set_cons_succ, i64_w, i32_w]
      rfl
    refine pure_ (i := 12) (N := some 17) (v := undef) (a' := ?_) #[true, true, true, true, true, true, true, true, true, true, true, true, true, false, false, false, false, false, false, false] rfl rfl (by kernel_rfl) (fun _ _ _ h => h) (Or.inr ⟨by rfl, rfl⟩) ?_ ?_
    rotate_left
    · simp only [Act.put, List.setIfInBounds_toArray, List.set_cons_zero, List.set_cons_succ, i64_w, i32_w]
      rfl
    refine pure_ (i := 13) (N := some 18) (v := undef) (a' := ?_) #[true, true, true, true, true, true, true, true, true, true, true, true, true, true, false, false, false, false, false, false] rfl rfl (by kernel_rfl) (fun _ _ _ h => h) (Or.inr ⟨by rfl, rfl⟩) ?_ ?_
    rotate_left
    · simp only [Act.put, List.setIfInBounds_toArray, List.set_cons_zero, List.set_cons_succ, i64_w, i32_w]
      rfl
    refine pure_ (i := 14) (N := some 19) (v := undef) (a' := ?_) #[true, true, true, true, true, true, true, true, true, true, true, true, true, true, true, false, false, false, false, false] rfl rfl (by kernel_rfl) (fun _ _ _ h => h) (Or.inr ⟨by rfl, rfl⟩) ?_ ?_
    rotate_left
    · simp only [Act.put, List.setIfInBounds_toArray, List.set_cons_zero, List.set_cons_succ, i64_w, i32_w]
      rfl
    refine pure_ (i := 15) (N := some 20) (v := undef) (a' := ?_) #[true, true, true, true, true, true, true, true, true, true, true, true, true, true, true, true, false, false, false, false] rfl rfl (by kernel_rfl) (fun _ _ _ h => h) (Or.inr ⟨by rfl, rfl⟩) ?_ ?_
    rotate_left
    · simp only [Act.put, List.setIfInBounds_toArray, List.set_cons_zero, List.set_cons_succ, i64_w, i32_w]
      rfl
    refine pure_ (i := 16) (N := some 21) (v := undef) (a' := ?_) #[true, true, true, true, true, true, true, true, true, true, true, true, true, true, true, true, true, false, false, false] rfl rfl (by kernel_rfl) (fun _ _ _ h => h) (Or.inr ⟨by rfl, rfl⟩) ?_ ?_
    rotate_left
    · simp only [Act.put, List.setIfInBounds_toArray, List.set_cons_zero, List.set_cons_succ, i64_w, i32_w]
      rfl
    refine pure_ (i := 17) (N := some 22) (v := undef) (a' := ?_) #[true, true, true, true, true, true, true, true, true, true, true, true, true, true, true, true, true, true, false, false] rfl rfl (by kernel_rfl) (fun _ _ _ h => h) (Or.inr ⟨by rfl, rfl⟩) ?_ ?_
    rotate_left
    · simp only [Act.put, List.setIfInBounds_toArray, List.set_cons_zero, List.set_cons_succ, i64_w, i32_w]
      rfl
    refine pure_ (i := 18) (N := some 23) (v := ?_) (a' := ?_) #[true, true, true, true, true, true, true, true, true, true, true, true, true, true, true, true, true, true, true, false] rfl rfl (by kernel_rfl) (fun _ _ _ h => h) (Or.inl ⟨by rfl, ?_⟩) ?_ ?_
    rotate_left
    · intro w'
      go_simp
      with_reducible rfl
    rotate_left
    · simp only [Act.put, List.setIfInBounds_toArray, List.set_cons_zero, List.set_cons_succ, i64_w, i32_w]
      rfl
    refine pure_ (i := 19) (N := some 4) (v := ?_) (a' := ?_) #[true, true, true, true, true, true, true, true, true, true, true, true, true, true, true, true, true, true, true, true] rfl rfl (by kernel_rfl) (fun _ _ _ h => h) (Or.inl ⟨by rfl, ?_⟩) ?_ ?_
    rotate_left
    · intro w'
      go_simp
      with_reducible rfl
    rotate_left
    · simp only [Act.put, List.setIfInBounds_toArray, List.set_cons_zero, List.set_cons_succ, i64_w, i32_w]
      rfl
    refine done_ (by kernel_rfl) ?_
    clear hHeld
    go_wp2
    go_ret
    exact ⟨by rw [HD.out]; rfl, by first | exact Below.refl _ _ | exact pw_below_drewN (Below.refl _ _) _⟩
  · have hd := decide_eq_false c
    have HD := Aside0.mk hd
    clear c
    refine start_ (n := 20) (S := fun w' => w'.cell? ⟨gp, 0, none⟩ = some (.pointer (some ⟨gc, 0, none⟩)) ∧ w'.cell? ⟨gc, 1, none⟩ = some (.slice (some ⟨go, 0, none⟩) m m) ∧ w'.cell? ⟨go, n.toNat, none⟩ = some (.int .i64 a) ∧ w'.cell? ⟨gn, 0, none⟩ = some (.int .i64 now)) (ds := []) #[false, false, false, false, false, false, false, false, false, false, false, false, false, false, false, false, false, false, false, false] (by kernel_rfl) rfl rfl ⟨zp, zc, rn, zn⟩ (fun hHeld => ?_)
    refine take_ (i := 0) (N := some 5) (v := ?_) (a' := ?_) #[true, false, false, false, false, false, false, false, false, false, false, false, false, false, false, false, false, false, false, false] rfl rfl (by kernel_rfl) (fun _ _ _ h => h) (Or.inl ⟨by rfl, ?_⟩) hHeld ?_ ?_
    rotate_left
    · rintro w' ⟨s0, s1, s2, s3⟩
      go_simp
      with_reducible rfl
    rotate_left
    · simp only [Act.put, List.setIfInBounds_toArray, List.set_cons_zero, List.set_cons_succ, i64_w, i32_w]
      rfl
    refine pure_ (i := 1) (N := some 6) (v := ?_) (a' := ?_) #[true, true, false, false, false, false, false, false, false, false, false, false, false, false, false, false, false, false, false, false] rfl rfl (by kernel_rfl) (fun _ _ _ h => h) (Or.inl ⟨by rfl, ?_⟩) ?_ ?_
    rotate_left
    · intro w'
      go_simp
      with_reducible rfl
    rotate_left
    · simp only [Act.put, List.setIfInBounds_toArray, List.set_cons_zero, List.set_cons_succ, i64_w, i32_w]
      rfl
    refine pure_ (i := 2) (N := some 7) (v := ?_) (a' := ?_) #[true, true, true, false, false, false, false, false, false, false, false, false, false, false, false, false, false, false, false, false] rfl rfl (by kernel_rfl) (fun _ _ _ h => h) (Or.inl ⟨by rfl, ?_⟩) ?_ ?_
    rotate_left
    · intro w'
      go_simp
      with_reducible rfl
    rotate_left
    · simp only [Act.put, List.setIfInBounds_toArray, List.set_cons_zero, List.set_cons_succ, i64_w, i32_w]
      rfl
    refine take_ (i := 3) (N := some 8) (v := ?_) (a' := ?_) #[true, true, true, true, false, false, false, false, false, false, false, false, false, false, false, false, false, false, false, false] rfl rfl (by kernel_rfl) (fun _ _ _ h => h) (Or.inl ⟨by rfl, ?_⟩) hHeld ?_ ?_
    rotate_left
    · rintro w' ⟨s0, s1, s2, s3⟩
      go_simp
      with_reducible rfl
    rotate_left
    · simp only [Act.put, List.setIfInBounds_toArray, List.set_cons_zero, List.set_cons_succ, i64_w, i32_w]
      rfl
    refine pure_ (i := 4) (N := some 9) (v := ?_) (a' := ?_) #[true, true, true, true, true, false, false, false, false, false, false, false, false, false, false, false, false, false, false, false] rfl rfl (by kernel_rfl) (fun _ _ _ h => h) (Or.inl ⟨by rfl, ?_⟩) ?_ ?_
    rotate_left
    · intro w'
      go_simp
      with_reducible rfl
    rotate_left
    · simp only [Act.put, List.setIfInBounds_toArray, List.set_cons_zero, List.set_cons_succ, i64_w, i32_w]
      rfl
    refine pure_ (i := 5) (N := some 10) (v := ?_) (a' := ?_) #[true, true, true, true, true, true, false, false, false, false, false, false, false, false, false, false, false, false, false, false] rfl rfl (by kernel_rfl) (fun _ _ _ h => h) (Or.inl ⟨by rfl, ?_⟩) ?_ ?_
    rotate_left
    · intro w'
      go_simp
      with_reducible rfl
    rotate_left
    · simp only [Act.put, List.setIfInBounds_toArray, List.set_cons_zero, List.set_cons_succ, i64_w, i32_w]
      rfl
    refine take_ (i := 6) (N := some 11) (v := ?_) (a' := ?_) #[true, true, true, true, true, true, true, false, false, false, false, false, false, false, false, false, false, false, false, false] rfl rfl (by kernel_rfl) (fun _ _ _ h => h) (Or.inl ⟨by rfl, ?_⟩) hHeld ?_ ?_
    rotate_left
    · rintro w' ⟨s0, s1, s2, s3⟩
      go_simp
      with_reducible rfl
    rotate_left
    · simp only [Act.put, List.setIfInBounds_toArray, List.set_cons_zero, List.set_cons_succ, i64_w, i32_w]
      rfl
    refine pure_ (i := 7) (N := some 12) (v := ?_) (a' := ?_) #[true, true, true, true, true, true, true, true, false, false, false, false, false, false, false, false, false, false, false, false] rfl rfl (by kernel_rfl) (fun _ _ _ h => h) (Or.inl ⟨by rfl, ?_⟩) ?_ ?_
    rotate_left
    · intro w'
      go_simp
      with_reducible rfl
    rotate_left
    · simp only [Act.put, List.setIfInBounds_toArray, List.set_cons_zero, List.set_cons_succ, i64_w, i32_w]
      rfl
    refine pure_ (i := 8) (N := some 13) (v := ?_) (a' := ?_) #[true, true, true, true, true, true, true, true, true, false, false, false, false, false, false, false, false, false, false, false] rfl rfl (by kernel_rfl) (fun _ _ _ h => h) (Or.inl ⟨by rfl, ?_⟩) ?_ ?_
    rotate_left
    · intro w'
      go_simp
      with_reducible rfl
    rotate_left
    · simp only [Act.put, List.setIfInBounds_toArray, List.set_cons_zero, List.set_cons_succ, i64_w, i32_w]
      rfl
    refine take_ (i := 9) (N := some 14) (v := ?_) (a' := ?_) #[true, true, true, true, true, true, true, true, true, true, false, false, false, false, false, false, false, false, false, false] rfl rfl (by kernel_rfl) (fun _ _ _ h => h) (Or.inl ⟨by rfl, ?_⟩) hHeld ?_ ?_
    rotate_left
    · rintro w' ⟨s0, s1, s2, s3⟩
      go_simp
      with_reducible rfl
    rotate_left
    · simp only [Act.put, List.setIfInBounds_toArray, List.set_cons_zero, List.set_cons_succ, i64_w, i32_w]
      rfl
    refine pure_ (i := 10) (N := some 15) (v := ?_) (a' := ?_) #[true, true, true, true, true, true, true, true, true, true, true, false, false, false, false, false, false, false, false, false] rfl rfl (by kernel_rfl) (fun _ _ _ h => h) (Or.inl ⟨by rfl, ?_⟩) ?_ ?_
    rotate_left
    · intro w'
      go_simp
      with_reducible rfl
    rotate_left
    · simp only [Act.put, List.setIfInBounds_toArray, List.set_cons_zero, List.set_cons_succ, i64_w, i32_w]
      rfl
    refine pure_ (i := 11) (N := some 16) (v := ?_) (a' := ?_) #[true, true, true, true, true, true, true, true, true, true, true, true, false, false, false, false, false, false, false, false] rfl rfl (by kernel_rfl) (fun _ _ _ h => h) (Or.inl ⟨by rfl, ?_⟩) ?_ ?_
    rotate_left
    · intro w'
      go_simp
      with_reducible rfl
    rotate_left
    · simp only [Act.put, List.setIfInBounds_toArray, List.set_cons_zero, List.set_cons_succ, i64_w, i32_w]
      rfl
    refine take_ (i := 12) (N := some 17) (v := ?_) (a' := ?_) #[true, true, true, true, true, true, true, true, true, true, true, true, true, false, false, false, false, false, false, false] rfl rfl (by kernel_rfl) (fun _ _ _ h => h) (Or.inl ⟨by rfl, ?_⟩) hHeld ?_ ?_
    rotate_left
    · rintro w' ⟨s0, s1, s2, s3⟩
      go_simp
      with_reducible rfl
    rotate_left
    · simp only [Act.put, List.setIfInBounds_toArray, List.set_cons_zero, List.set_cons_succ, i64_w, i32_w]
      rfl
    refine pure_ (i := 13) (N := some 18) (v := ?_) (a' := ?_) #[true, true, true, true, true, true, true, true, true, true, true, true, true, true, false, false, false, false, false, false] rfl rfl (by kernel_rfl) (fun _ _ _ h => h) (Or.inl ⟨by rfl, ?_⟩) ?_ ?_
    rotate_left
    · intro w'
      go_simp
      with_reducible rfl
    rotate_left
    · simp only [Act.put, List.setIfInBounds_toArray, List.set_cons_zero, List.set_cons_succ, i64_w, i32_w]
      rfl
    refine pure_ (i := 14) (N := some 19) (v := ?_) (a' := ?_) #[true, true, true, true, true, true, true, true, true, true, true, true, true, true, true, false, false, false, false, false] rfl rfl (by kernel_rfl) (fun _ _ _ h => h) (Or.inl ⟨by rfl, ?_⟩) ?_ ?_
    rotate_left
    · intro w'
      go_simp
      with_reducible rfl
    rotate_left
    · simp only [Act.put, List.setIfInBounds_toArray, List.set_cons_zero, List.set_cons_succ, i64_w, i32_w]
      rfl
    refine take_ (i := 15) (N := some 20) (v := ?_) (a' := ?_) #[true, true, true, true, true, true, true, true, true, true, true, true, true, true, true, true, false, false, false, false] rfl rfl (by kernel_rfl) (fun _ _ _ h => h) (Or.inl ⟨by rfl, ?_⟩) hHeld ?_ ?_
    rotate_left
    · rintro w' ⟨s0, s1, s2, s3⟩
      go_simp
      with_reducible rfl
    rotate_left
    · simp only [Act.put, List.setIfInBounds_toArray, List.set_cons_zero, List.set_cons_succ, i64_w, i32_w]
      rfl
    refine take_ (i := 16) (N := some 21) (v := ?_) (a' := ?_) #[true, true, true, true, true, true, true, true, true, true, true, true, true, true, true, true, true, false, false, false] rfl rfl (by kernel_rfl) (fun _ _ _ h => h) (Or.inl ⟨by rfl, ?_⟩) hHeld ?_ ?_
    rotate_left
    · rintro w' ⟨s0, s1, s2, s3⟩
      go_simp
      with_reducible rfl
    rotate_left
    · simp only [Act.put, List.setIfInBounds_toArray, List.set_cons_zero, List.set_cons_succ, i64_w, i32_w]
      rfl
    refine pure_ (i := 17) (N := some 22) (v := ?_) (a' := ?_) #[true, true, true, true, true, true, true, true, true, true, true, true, true, true, true, true, true, true, false, false] rfl rfl (by kernel_rfl) (fun _ _ _ h => h) (Or.inl ⟨by rfl, ?_⟩) ?_ ?_
    rotate_left
    · intro w'
      go_simp
      with_reducible rfl
    rotate_left
    · simp only [Act.put, List.setIfInBounds_toArray, List.set_cons_zero, List.set_cons_succ, i64_w, i32_w]
      rfl
    refine pure_ (i := 18) (N := some 23) (v := ?_) (a' := ?_) #[true, true, true, true, true, true, true, true, true, true, true, true, true, true, true, true, true, true, true, false] rfl rfl (by kernel_rfl) (fun _ _ _ h => h) (Or.inl ⟨by rfl, ?_⟩) ?_ ?_
    rotate_left
    · intro w'
      go_simp
      with_reducible rfl
    rotate_left
    · simp only [Act.put, List.setIfInBounds_toArray, List.set_cons_zero, List.set_cons_succ, i64_w, i32_w]
      rfl
    refine pure_ (i := 19) (N := some 4) (v := ?_) (a' := ?_) #[true, true, true, true, true, true, true, true, true, true, true, true, true, true, true, true, true, true, true, true] rfl rfl (by kernel_rfl) (fun _ _ _ h => h) (Or.inl ⟨by rfl, ?_⟩) ?_ ?_
    rotate_left
    · intro w'
      go_simp
      with_reducible rfl
    rotate_left
    · simp only [Act.put, List.setIfInBounds_toArray, List.set_cons_zero, List.set_cons_succ, i64_w, i32_w]
      rfl
    refine done_ (by kernel_rfl) ?_
    clear hHeld
    go_wp2
    go_ret
    exact ⟨by rw [HD.out]; rfl, by first | exact Below.refl _ _ | exact pw_below_drewN (Below.refl _ _) _⟩
def rdyGo (over : List Int) (now : Int) : List S53 → Nat → Int
  | [], _ => -1
  | t :: ts, i => if rdOf 0 over (i : Int) < 0 ∧ t.f1.any (rdyLate over now) = false then (i : Int) else rdyGo over now ts (i + 1)
/-- the crew's memory -/
structure CR (gc go m : Nat) (vf : Value) (over : List Int) (w W : World) : Prop where
  bc : W.heap[gc]? = some (.cells #[vf, .slice (some ⟨go, 0, none⟩) m m] 75 (0, 0))
  row : W.heap[go]? = some (.cells (encs (Value.int .i64) over).toArray 3 (0, 0))
  bel : Below w.heap.size w W
theorem CR.below {gc go m : Nat} {vf : Value} {over : List Int} {w W W' : World} (h : CR gc go m vf over w W) (hb : Below W.heap.size W W') : CR gc go m vf over w W' := ⟨blk_below h.bc hb, blk_below h.row hb, below_then h.bel h.bel.size hb⟩
theorem CR.at {gc go m : Nat} {vf : Value} {over : List Int} {w W : World} (h : CR gc go m vf over w W) (k : Int) (h0 : 0 ≤ k) (h1 : k < over.length) : W.cell? ⟨go, k.toNat, none⟩ = some (.int .i64 (rdOf 0 over k)) := by
  rw [blk_cell h.row, List.getElem?_toArray]
  unfold encs rdOf
  rw [List.getElem?_map, List.getD_eq_getElem?_getD, List.getElem?_eq_getElem (by omega)]
  rfl
set_option maxHeartbeats 8000000 in
set_option maxRecDepth 100000 in
theorem crew_ready.at (gc go : Nat) (vf : Value) (over : List Int) (A0 : Option Addr) (c0 : Nat) (l0 : List S53) (now : Int) (w : World) (hr0 : Kd.C k53 w A0 l0.length l0) (hlen : l0.length ≤ 30) (hN : ∀ t ∈ l0, ∀ n ∈ t.f1, 0 ≤ n ∧ n < (l0.length : Int))
    (hbc : w.heap[gc]? = some (.cells #[vf, .slice (some ⟨go, 0, none⟩) l0.length l0.length] 75 (0, 0))) (hrow : w.heap[go]? = some (.cells (encs (Value.int .i64) over).toArray 3 (0, 0))) (hov : over.length = l0.length) :
    Calls Try.prog 63 #[.pointer (some ⟨gc, 0, none⟩), .slice A0 l0.length c0, .int .i64 now] w fun e w' => e = .returned (.int .i64 (rdyGo over now l0 0)) ∧ Below w.heap.size w w' := by
  have hu29 := Try.underlying29
  have hu25 := Try.underlying25
  have hu53 := Try.underlying53
  have hu72 := Try.underlying72
  have hu75 := Try.underlying75
  have HR0 := Aside0.mk hr0
  have HL := Aside0.mk hlen
  have HN := Aside0.mk hN
  have HO := Aside0.mk hov
  have CR0 := Aside0.mk (CR.mk hbc hrow (Below.refl _ _))
  obtain ⟨r, hr⟩ : ∃ r, r = rdyGo over now l0 0 := ⟨_, rfl⟩
  rw [← hr]
  have H := Aside0.mk hr.symm
  clear hr0 hN hbc hrow hov hr
  go_enter Try.func63, Try.ntmps63
  go_wp2_with fail
  have hbp0 := heap_alloc_new w (.cells #[.pointer (some ⟨gc, 0, none⟩)] 72)
  have hbn0 := heap_alloc_new (w.alloc (.cells #[.pointer (some ⟨gc, 0, none⟩)] 72)) (.cells #[.int .i64 now] 3)
  rw [World.size_alloc] at hbn0
  have CR1 := Aside0.mk (CR0.out.below (below_alloc (below_alloc (Below.refl w.heap.size w) (.cells #[.pointer (some ⟨gc, 0, none⟩)] 72)) (.cells #[.int .i64 now] 3)))
  have BP := Aside0.mk (blk_alloc hbp0 (.cells #[.int .i64 now] 3))
  have BN := Aside0.mk hbn0
  clear hbp0 hbn0 CR0
  go_loopg [12] l0.length (fun kq v12 w' => ∃ i : Nat, v12 = .int .i64 (i : Int) ∧ Aside0 (kq + i = l0.length) ∧ Aside0 (CR gc go l0.length vf over w w') ∧ Aside0 (w'.heap[w.heap.size]? = some (.cells #[.pointer (some ⟨gc, 0, none⟩)] 72 (0, 0))) ∧ Aside0 (w'.heap[w.heap.size + 1]? = some (.cells #[.int .i64 now] 3 (0, 0))) ∧ Aside0 (rdyGo over now (l0.drop i) i = r))
  case atStart => exact ⟨0, rfl, ⟨by omega⟩, CR1, BP, BN, ⟨by simpa using H.out⟩⟩
  case round =>
    clear CR1 BP BN H
    obtain ⟨i, rfl, HI, HK, BP, BN, H⟩ := hrel
    by_cases hil : i < l0.length
    · obtain ⟨ad0, A1, c1, e0, hx0, hx1, hc1, hC1⟩ := at_T53 (Kd.C_below HR0.out HK.out.bel) (i : Int) (by omega) (by omega)
      subst e0
      rw [Int.toNat_natCast] at hx0 hx1
      obtain ⟨t, ht⟩ : ∃ t, t = rd_T53 l0 (i : Int) := ⟨_, rfl⟩
      rw [← ht] at hx0 hx1 hc1 hC1
      have hig : l0[i]? = some t := by rw [ht]; unfold rd_T53; rw [Int.toNat_natCast, List.getD_eq_getElem?_getD, List.getElem?_eq_getElem hil]; rfl
      have hdr : l0.drop i = t :: l0.drop (i + 1) := by
        rw [List.drop_eq_getElem_cons hil]; rw [List.getElem?_eq_getElem hil] at hig; rw [Option.some.inj hig]
      have HT := Aside0.mk (HN.out t (List.mem_of_getElem? hig))
      have h := H.out
      rw [hdr] at h
      simp only [rdyGo] at h
      have H2 := Aside0.mk h
      have HC := Aside0.mk hC1
      have qi := eq_true hil
      clear h hdr hig ht H hC1
      cases gk with
      | zero => exact absurd HI.out (by omega)
      | succ k1 =>
      go_wp2_with (first | ((with_reducible refine gate_dst (N := 17) rfl ?_); generalize hst : (wpList Try.prog) = ST))
      generalize hW : World.alloc wr _ = W8
      have hb8 : Below wr.heap.size wr W8 := hW ▸ below_alloc (Below.refl _ _) _
      have h13 : W8.heap[wr.heap.size]? = some (.cells #[.int .i64 t.f0, .slice A1 t.f1.length c1] 53 (0, 0)) := hW ▸ heap_alloc_new _ _
      have HK8 := Aside0.mk (HK.out.below hb8)
      have BP8 := Aside0.mk (blk_below BP.out hb8)
      have BN8 := Aside0.mk (blk_below BN.out hb8)
      have HC8 := Aside0.mk (Kd.C_below HC.out hb8)
      obtain ⟨g13, hg13⟩ : ∃ g, g = wr.heap.size := ⟨_, rfl⟩
      rw [← hg13] at h13 ⊢
      subst hst
      clear hb8 hW hx0 hx1 hg13 HK HC BP BN
      have z13 : W8.cell? ⟨g13, 1, none⟩ = some (.slice A1 t.f1.length c1) := (blk_cell h13 1).trans rfl
      clear h13
      go_wp2_with fail
      refine (slices_ContainsFunc_int_int.at 72 (enters_ Try.func72 (by kernel_rfl) rfl) #[.pointer (some ⟨w.heap.size, 0, none⟩), .pointer (some ⟨w.heap.size + 1, 0, none⟩)] (rdyLate over now) A1 c1 t.f1 W8 HC8.out (fun W n hn hb => ready_clo w.heap.size (w.heap.size + 1) gc go l0.length vf over now W (blk_below BP8.out hb) (blk_below BN8.out hb) (HK8.out.below hb).bc (HK8.out.below hb).row HO.out n (HT.out n hn).1 (HT.out n hn).2)).mono ?_
      rintro e w2 ⟨rfl, hb⟩
      have HK9 := Aside0.mk (HK8.out.below hb)
      have BP9 := Aside0.mk (blk_below BP8.out hb)
      have BN9 := Aside0.mk (blk_below BN8.out hb)
      obtain ⟨b, hb0⟩ : ∃ b, b = t.f1.any (rdyLate over now) := ⟨_, rfl⟩
      have HB := Aside0.mk hb0
      rw [← hb0]
      clear hb hb0 z13
      have zp : w2.cell? ⟨w.heap.size, 0, none⟩ = some (.pointer (some ⟨gc, 0, none⟩)) := (blk_cell BP9.out 0).trans rfl
      have zc : w2.cell? ⟨gc, 1, none⟩ = some (.slice (some ⟨go, 0, none⟩) l0.length l0.length) := (blk_cell HK9.out.bc 1).trans rfl
      have zr := HK9.out.at (i : Int) (by omega) (by have := HO.out; omega)
      rw [Int.toNat_natCast] at zr
      by_cases hneg : rdOf 0 over (i : Int) < 0
      · have hd := decide_eq_true hneg
        cases b with
        | true =>
          have h := H2.out
          rw [if_neg (by rw [← HB.out]; simp)] at h
          have H3 := Aside0.mk h
          clear h hneg H2
          go_wp2
          go_roundg k1
          case measure => omega
          case rel => exact ⟨i + 1, by first | rfl | (have := HL.out; congr 1; unfold wrap64; omega), ⟨by have := HI.out; omega⟩, HK9, BP9, BN9, H3⟩
        | false =>
          have h := H2.out
          rw [if_pos ⟨hneg, HB.out.symm⟩] at h
          obtain rfl : (i : Int) = r := h
          clear hneg H2
          go_wp2
          go_ret
          exact ⟨rfl, by repeat (first | exact HK9.out.bel | apply pw_below_drewN | apply below_drew1 | apply below_drew)⟩
      · have hd := decide_eq_false hneg
        have h := H2.out
        rw [if_neg (fun hc => hneg hc.1)] at h
        have H3 := Aside0.mk h
        clear h hneg H2
        go_wp2
        go_roundg k1
        case measure => omega
        case rel => exact ⟨i + 1, by first | rfl | (have := HL.out; congr 1; unfold wrap64; omega), ⟨by have := HI.out; omega⟩, HK9, BP9, BN9, H3⟩
    · have hil2 : decide (i < l0.length) = false := decide_eq_false hil
      have h := H.out
      rw [List.drop_of_length_le (by omega)] at h
      obtain rfl : -1 = r := h
      go_wp2
      go_ret
      exact ⟨rfl, by repeat (first | exact HK.out.bel | apply pw_below_drewN | apply below_drew1 | apply below_drew)⟩

end Go.Proofs.Ytpgegjbnnbkhiaa.PFnExactScheduleOf
