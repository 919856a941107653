-- written by xprint.py (a program of this session's, over the kit's print): printed functions, and some by hand
import Derived.Test.YtnfafdlglhbijaaPFnExactIsSoundx0
import Derived.Test.YtnfafdlglhbijaaPFnExactIsSoundx6
import Derived.Test.YtnfafdlglhbijaaPFnExactIsSoundx7
namespace Go.Proofs.Ytnfafdlglhbijaa.PFnExactIsSound
open Go.RowKit Go.Proofs.YtnfafdlglhbijaaW.PrintWords Go.Proofs.YtnfafdlglhbijaaW.PrintLast Go.Proofs.YtnfafdlglhbijaaW.PrintMore
attribute [local go_sem] max2_int min2_int max_two min_two max_three min_three max_four min_four   -- for this text's walks alone
set_option linter.unusedVariables false
set_option linter.unusedSimpArgs false

/-! ### impl_marksFrom: function 67, by hand; a text alone -/
open Go.Maps Go
theorem lit_below {W w1 : World} (hg : W.grownBy w1 none) : Below W.heap.size W w1 := (Below.refl _ _).grown hg (Nat.le_refl _) (fun k hk => by cases hk)
theorem MK.init {P : Program} {okR : Nat → Prop} {base gx gm : Nat} {w w13 w14 w15 w17 w18 w20 : World} {vL vF vS : Value} {m : List Int} {x y : Int} (hOK : ∀ k, w.heap.size ≤ k → okR k) (hBA : base ≤ w.heap.size)
    (hL : Kd.S (Kd.slice 3 (Kd.int .i64)) 33 w13 base okR vL [m]) (hnL : ∃ b, vL.ownBlock = some b ∧ w.heap.size ≤ b) (hB13 : Below w.heap.size w w13)
    (hF : Kd.R (Kd.int .i64) 3 w14 w.heap.size (fun _ => True) vF [x]) (hnF : ∃ b, vF.ownBlock = some b ∧ w13.heap.size ≤ b) (g14 : Below w13.heap.size w13 w14)
    (hS : Kd.R (Kd.int .i64) 3 w15 w.heap.size (fun _ => True) vS [y]) (hnS : ∃ b, vS.ownBlock = some b ∧ w14.heap.size ≤ b) (g15 : Below w14.heap.size w14 w15)
    (hX : w17.heap[gx]? = some (.cells #[vL, vF, vS] 81 (0, 0))) (hgx : gx = w15.heap.size) (g17 : Below w15.heap.size w15 w17)
    (hM : nkMap P 96 4 w18 gm 0 []) (hgm : gm = w17.heap.size) (g18 : Below w17.heap.size w17 w18) (g20 : Below w18.heap.size w18 w20) :
    MK P okR (fun _ => False) base gx gm #[vL, vF, vS] vL vF vS (.slice none 0 0) w w20 [] [m] [x] [y] [] := by
  obtain ⟨bF, hbF, hlF⟩ := hnF
  obtain ⟨bS, hbS, hlS⟩ := hnS
  have l14 := g14.size
  have l15 := g15.size
  have l17 := g17.size
  have l18 := g18.size
  have l13 := hB13.size
  have hFlt := Kd.R_lt hF bF hbF
  have c15 : Below w15.heap.size w15 w20 := below_then g17 l17 (below_then g18 l18 g20)
  have c14 : Below w14.heap.size w14 w20 := below_then g15 l15 c15
  have hL14 := Kd.S_elder' (v := vF) hL (fun k hk => by rw [hbF] at hk; injection hk with hk; omega) g14
  have hL15 := Kd.S_elder' (v := vS) hL14 (fun k hk => by rw [hbS] at hk; injection hk with hk; omega) g15
  refine ⟨blk_below hX (below_then g18 l18 g20), Kd.S_mono (Kd.S_below hL15 c15) (fun k hk => ⟨⟨hk.1.1, fun hf => hf⟩, hk.1.2, hk.2⟩), Kd.R_below hF c14, Kd.R_below hS c15, Kd.R_nil _ _ _ _ _, fun k hk he => ?_, fun _ hk => hk.elim, hM.block (g20.block _ hM.lt), below_then hB13 l13 (below_then g14 l14 c14), fun _ hk => hk.elim, by omega, by omega, hOK, hBA, fun k hk => ?_⟩
  · rw [hbF] at hk
    rw [hbS] at he
    injection hk with hk
    injection he with he
    omega
  · obtain ⟨b, hb, hle⟩ := hnL
    rw [hb] at hk
    injection hk with hk
    omega
/-- a literal of one element, made since a block number -/
def Lit1 (N : Nat) (W : World) (v x : Value) : Prop := ∃ g, v = .slice (some ⟨g, 0, none⟩) 1 1 ∧ W.cell? ⟨g, 0, none⟩ = some x ∧ N ≤ g ∧ g < W.heap.size
theorem Lit1.below {N : Nat} {W W' : World} {v x : Value} (h : Lit1 N W v x) (hb : Below W.heap.size W W') : Lit1 N W' v x := by
  obtain ⟨g, rfl, hc, hN, hl⟩ := h
  exact ⟨g, rfl, pw_cell_below hb hc, hN, Nat.lt_of_lt_of_le hl hb.size⟩
theorem Lit1.grown {N : Nat} {W W' : World} {v x : Value} {row : Option Nat} (h : Lit1 N W v x) (hg : W.grownBy W' row) (hr : ∀ k, row = some k → k < N) : Lit1 N W' v x := by
  obtain ⟨g, rfl, hc, hN, hl⟩ := h
  exact ⟨g, rfl, (World.cell?_of_block (a := ⟨g, 0, none⟩) (hg.block g hl (fun he => by have := hr g he.symm; omega))).trans hc, hN, Nat.lt_of_lt_of_le hl hg.size⟩
theorem Lit1.new {N : Nat} {W : World} {x : Value} {t : TypeId} (hN : N ≤ W.heap.size) : Lit1 N (W.alloc (.cells #[x] t)) (.slice (some ⟨W.heap.size, 0, none⟩) 1 1) x :=
  ⟨_, rfl, (blk_cell (heap_alloc_new W (.cells #[x] t)) 0).trans rfl, hN, by simp⟩
theorem Lit1.rows {α : Type} {W : World} {g : Nat} {x : Value} (p : α) (hc : W.cell? ⟨g, 0, none⟩ = some x) : ReadsRow (fun (q : α) (u : List Value) => q = p ∧ u = [x]) 1 W (some ⟨g, 0, none⟩) 1 [p] := by
  refine ⟨rfl, by decide, fun _ => ⟨_, rfl, fun j q hj => ?_⟩⟩
  cases j with
  | zero =>
    obtain rfl := Option.some.inj hj
    refine ⟨[x], rfl, ⟨rfl, rfl⟩, fun i u hu => ?_⟩
    cases i with
    | zero => obtain rfl := Option.some.inj hu; exact hc
    | succ i => exact absurd hu (by simp)
  | succ j => exact absurd hj (by simp)
section
variable {P : Program} {ops : Array Oper} {o : Oper} {a : Act} {Qx : Exit → Act → World → Prop} {Kc : Act → World → Prop} {ok Q : Nat → Prop} {base gx gm N : Nat} {bx : Array Value} {vL vF vS vn u : Value} {w0 W : World} {ML L : List (List Int)} {F S nx : List Int} {i : Int}
theorem MK.appF (h : MK P ok Q base gx gm bx vL vF vS vn w0 W ML L F S nx) (hl : Lit1 N W u (.int .i64 i)) (hlen : F.length ≤ 1000) (hw : Region.wanted o (yielded ops a.tmps) = true) (s x : Operand)
    (ho : o.op = .call { callee := .builtin .append, args := #[s, x], argTypes := #[33, 33] }) (ht : P.underlying 33 = some (.slice 3)) (hinfo : (P.info? 3).map (fun i => (i.zero, i.size, i.bytes)) = some (some (.int .i64 0), 1, 8)) (hs : a.eval s = vF) (hx : a.eval x = u)
    (hK : ∀ v1 w1, MK P ok Q base gx gm bx vL v1 vS vn w0 w1 ML L (F ++ [i]) S nx → W.grownBy w1 vF.ownBlock → Kc (a.put o.dst v1) w1) :
    if Region.wanted o (yielded ops a.tmps) = true then Oper.wp P o a W Kc Qx else Kc (a.put o.dst undef) W := by
  obtain ⟨g, rfl, hc, -, -⟩ := hl
  exact Kd.R_append_rows_step (Kd.int .i64) (w0 := w0) w0.heap.size hw s x 33 3 (.int .i64 0) 8 ho ht hinfo rfl (by decide) (by omega) vF F [i] (some ⟨g, 0, none⟩) 1 1 (fun _ => True) (fun _ => False) hs hx h.F (Lit1.rows i hc) (fun q c hq => by obtain ⟨rfl, rfl⟩ := hq; rfl) (fun _ hk => hk.elim) (fun _ _ => trivial) h.B h.B.size (by omega)
    (fun v1 w1 hr hb hg hat => hK v1 w1 (h.growF hg hat hr hb) hg)
theorem MK.appS (h : MK P ok Q base gx gm bx vL vF vS vn w0 W ML L F S nx) (hl : Lit1 N W u (.int .i64 i)) (hlen : S.length ≤ 1000) (hw : Region.wanted o (yielded ops a.tmps) = true) (s x : Operand)
    (ho : o.op = .call { callee := .builtin .append, args := #[s, x], argTypes := #[33, 33] }) (ht : P.underlying 33 = some (.slice 3)) (hinfo : (P.info? 3).map (fun i => (i.zero, i.size, i.bytes)) = some (some (.int .i64 0), 1, 8)) (hs : a.eval s = vS) (hx : a.eval x = u)
    (hK : ∀ v1 w1, MK P ok Q base gx gm bx vL vF v1 vn w0 w1 ML L F (S ++ [i]) nx → W.grownBy w1 vS.ownBlock → Kc (a.put o.dst v1) w1) :
    if Region.wanted o (yielded ops a.tmps) = true then Oper.wp P o a W Kc Qx else Kc (a.put o.dst undef) W := by
  obtain ⟨g, rfl, hc, -, -⟩ := hl
  exact Kd.R_append_rows_step (Kd.int .i64) (w0 := w0) w0.heap.size hw s x 33 3 (.int .i64 0) 8 ho ht hinfo rfl (by decide) (by omega) vS S [i] (some ⟨g, 0, none⟩) 1 1 (fun _ => True) (fun _ => False) hs hx h.S (Lit1.rows i hc) (fun q c hq => by obtain ⟨rfl, rfl⟩ := hq; rfl) (fun _ hk => hk.elim) (fun _ _ => trivial) h.B h.B.size (by omega)
    (fun v1 w1 hr hb hg hat => hK v1 w1 (h.growS hg hat hr hb) hg)
theorem MK.appL (h : MK P ok Q base gx gm bx vL vF vS vn w0 W ML L F S nx) (hl : Lit1 N W u vn) (hlen : L.length ≤ 1000) (hw : Region.wanted o (yielded ops a.tmps) = true) (s x : Operand)
    (ho : o.op = .call { callee := .builtin .append, args := #[s, x], argTypes := #[51, 51] }) (ht : P.underlying 51 = some (.slice 33)) (hinfo : (P.info? 33).map (fun i => (i.zero, i.size, i.bytes)) = some (some (.slice none 0 0), 1, 24)) (hs : a.eval s = vL) (hx : a.eval x = u)
    (hK : ∀ v1 w1, MK P ok (fun _ => False) base gx gm bx v1 vF vS (.slice none 0 0) w0 w1 ML (L ++ [nx]) F S [] → W.grownBy w1 vL.ownBlock → Kc (a.put o.dst v1) w1) :
    if Region.wanted o (yielded ops a.tmps) = true then Oper.wp P o a W Kc Qx else Kc (a.put o.dst undef) W := by
  obtain ⟨g, rfl, hc, -, -⟩ := hl
  have hty := Kd.S_typed h.L
  have hFl := Kd.R_lt h.F
  have hSl := Kd.R_lt h.S
  have hRt := Kd.R_typed h.R
  have hR := Kd.R_tight rfl h.R
  obtain ⟨f, hf, hT⟩ := Kd.S_tag h.L L.length (fun k => some k = vn.ownBlock) (fun k hk h2 => h2.1.2 (h.R.1 k hk.symm))
  refine Kd.R_append_rows_step (Kd.tag f (Kd.slice 3 (Kd.int .i64))) (w0 := w0) base hw s x 51 33 (.slice none 0 0) 24 ho ht hinfo rfl (show 0 < 1 by decide) (by omega) vL L.zipIdx [(nx, L.length)] (some ⟨g, 0, none⟩) 1 1 (fun k => ok k ∧ some k ≠ vF.ownBlock ∧ some k ≠ vS.ownBlock) (fun k => some k = vn.ownBlock) hs hx (Kd.R_mono hT (fun k hk => ⟨hk.1.1, hk.2⟩)) (Lit1.rows (nx, L.length) hc)
    (fun q c hq => by obtain ⟨rfl, rfl⟩ := hq; exact (Kd.slice 3 (Kd.int .i64)).M_mono (fun k hk => ⟨hk, hf k hk⟩) (Kd.M_row hR)) (fun k hk => ⟨⟨(h.N k (h.R.1 k hk.symm)).2, h.AF k (h.R.1 k hk.symm)⟩, fun he => ?_⟩) (fun k hk => ⟨h.OK k (Nat.le_trans h.B.size hk), fun he => by have := hFl k he.symm; omega, fun he => by have := hSl k he.symm; omega⟩) (h.B.mono h.BA) (Nat.le_trans h.BA h.B.size) (by rw [List.length_zipIdx]; omega) ?_
  · obtain ⟨c1, h1⟩ := hty k he.symm
    obtain ⟨c2, h2⟩ := hRt k hk.symm
    rw [h1] at h2
    injection h2 with h2
    injection h2 with _ h2
    exact absurd h2 (by decide)
  · intro v1 w1 hr hb hg hat
    rw [← Kd.zip_snoc] at hr
    exact hK v1 w1 (h.growL hg hat ⟨f, hr⟩ (h.B.grown hg h.B.size h.LB)) hg
end
/-- a row of a list of rows, read -/
theorem at_row {W : World} {base : Nat} {ok : Nat → Prop} {A : Option Addr} {n c : Nat} {xs : List (List Int)} (h : Kd.S (Kd.slice 3 (Kd.int .i64)) 33 W base ok (.slice A n c) xs) (i : Nat) (hi : i < xs.length) :
    ∃ (ad : Addr) (B : Option Addr) (d : Nat), A = some ad ∧ W.cell? (ad.add i) = some (.slice B (xs.getD i []).length d) ∧ (xs.getD i []).length ≤ d ∧ Kd.C (Kd.int .i64) W B (xs.getD i []).length (xs.getD i []) := by
  have hn : n = xs.length := (Kd.S_reads' h).1
  obtain ⟨g, cap, hv, -⟩ := Kd.S_form h (by omega)
  injection hv with hA _ _
  subst hA
  obtain ⟨cs, -, hM, hcc⟩ := Kd.S_get h [] (i : Int) (by omega) (by omega)
  rw [Int.toNat_natCast] at hM hcc
  obtain ⟨v, rfl, hR⟩ := hM
  obtain ⟨B, d, rfl⟩ := Kd.R_slice hR
  have h1 := hcc 0 _ rfl
  exact ⟨_, B, d, rfl, by simpa [Kd.slice] using h1, (Kd.R_reads' hR).2.1, (Kd.R_reads' hR).2.2⟩
def impl_marksFrom.f (a0 : Int) (st : List S60) (m : List Int) : Option (Option (List (List Int) × List Int × List Int)) := if wf8b m = true ∧ st.length ≤ 1000000 then mfOut (net_fired.f a0 st) st.length 402 0 [m] [-1] [-1] else none
set_option maxHeartbeats 16000000 in
set_option maxRecDepth 100000 in
theorem impl_marksFrom.calls (gb : Nat) (A : Option Addr) (cc : Nat) (a0 : Int) (st : List S60) (A1 : Option Addr) (c1 : Nat) (m : List Int) {base : Nat} {okm : Nat → Prop} (r : Option (List (List Int) × List Int × List Int)) (w : World) (hbk : w.heap[gb]? = some (.cells #[.int .i64 a0, .slice A st.length cc] 29 (0, 0))) (hst : Kd.C k60 w A st.length st) (hm : Kd.R (Kd.int .i64) 3 w base okm (.slice A1 m.length c1) m) (hbase : base ≤ w.heap.size) (h : impl_marksFrom.f a0 st m = some r) :
    Calls Try.prog 67 #[.pointer (some ⟨gb, 0, none⟩), .slice A1 m.length c1] w fun e w' => (r = none ∧ e = .returned (.tuple #[.pointer none, .bool false]) ∧ Below w.heap.size w w') ∨ ∃ (q : List (List Int) × List Int × List Int) (gx gm : Nat) (vL vF vS : Value) (ML : List (List Int)), r = some q ∧ e = .returned (.tuple #[.pointer (some ⟨gx, 0, none⟩), .bool true]) ∧ MK Try.prog (fun k => okm k ∨ w.heap.size ≤ k) (fun _ => False) base gx gm #[vL, vF, vS] vL vF vS (.slice none 0 0) w w' ML q.1 q.2.1 q.2.2 [] := by
  have hu81 := Try.underlying81
  have hu29 := Try.underlying29
  unfold impl_marksFrom.f at h
  by_cases hw0 : wf8b m = true ∧ st.length ≤ 1000000
  case neg => rw [if_neg hw0] at h; cases h
  rw [if_pos hw0] at h
  have HF := Aside0.mk h
  have HWF := Aside0.mk hw0
  have HBK := Aside0.mk hbk
  have HST := Aside0.mk hst
  have HBA := Aside0.mk hbase
  obtain ⟨okR, hokR⟩ : ∃ okR : Nat → Prop, okR = (fun k => okm k ∨ w.heap.size ≤ k) := ⟨_, rfl⟩
  rw [← hokR]
  have HMR : Aside0 (Kd.R (Kd.int .i64) 3 w base okR (.slice A1 m.length c1) m) := ⟨Kd.R_mono hm (fun k hk => by rw [hokR]; exact .inl hk)⟩
  have HOK : Aside0 (∀ k, w.heap.size ≤ k → okR k) := ⟨fun k hk => by rw [hokR]; exact .inr hk⟩
  clear h hw0 hbk hst hm hbase hokR
  go_enter Try.func67, Try.ntmps67
  go_wp2_with (first | ((with_reducible refine gate_dst (N := 13) rfl ?_); refine Kd.S_lits (Kd.slice 3 (Kd.int .i64)) (w0 := w) base 33 ?hg (N := 13) ?hd (xs := [m]) (inner := [.slice A1 m.length c1]) (ok := okR) (fun j k => j = 0 ∧ okR k) ?hr rfl ?hrep (fun i j k h1 h2 => h1.1.trans h2.1.symm) (fun j k h => h.2) (HOK.out _ (Nat.le_refl _)) (Below.refl _ _) HBA.out (by simp) ?_; (case hd => rfl); (case hg => rfl); (case hr => first | (go_simp; done) | (go_simp; rfl)); (case hrep => (intro j x hj; cases j with | zero => (obtain rfl := Option.some.inj hj; exact Kd.M_row (Kd.R_mono HMR.out (fun k hk => ⟨rfl, hk⟩))) | succ j => exact absurd hj (by simp))); intro v13 w13 hS hB_ hg13 hn13; obtain ⟨A13, c13, hv13⟩ : ∃ A c, v13 = Value.slice A 1 c := Kd.S_slice hS; subst hv13; have HL := Aside0.mk hS; have HB13 := Aside0.mk (lit_below hg13); have HN13 := Aside0.mk hn13; clear hS hB_ hg13 hn13) | ((with_reducible refine gate_dst (N := 14) rfl ?_); refine Kd.R_lit (Kd.int .i64) (w0 := w) w.heap.size 3 ?hg (N := 14) ?hd (xs := [(-1 : Int)]) (inner := [.int .i64 (-1)]) (ok := fun _ => True) (okp := fun _ => True) ?hr ?hrep (fun _ hk => hk) trivial HB13.out HB13.out.size (by simp) ?_; (case hd => rfl); (case hg => rfl); (case hr => first | (go_simp; done) | (go_simp; rfl)); (case hrep => exact Kd.reps_scalar [(-1 : Int)]); intro v14 w14 ho14 hb14 hg14 hn14; obtain ⟨A14, c14, hv14⟩ : ∃ A c, v14 = Value.slice A 1 c := Kd.R_slice ho14; subst hv14; have HO14 := Aside0.mk ho14; have HB14 := Aside0.mk hb14; have HG14 := Aside0.mk (lit_below hg14); have HN14 := Aside0.mk hn14; clear ho14 hb14 hg14 hn14) | ((with_reducible refine gate_dst (N := 15) rfl ?_); refine Kd.R_lit (Kd.int .i64) (w0 := w) w.heap.size 3 ?hg (N := 15) ?hd (xs := [(-1 : Int)]) (inner := [.int .i64 (-1)]) (ok := fun _ => True) (okp := fun _ => True) ?hr ?hrep (fun _ hk => hk) trivial HB14.out HB14.out.size (by simp) ?_; (case hd => rfl); (case hg => rfl); (case hr => first | (go_simp; done) | (go_simp; rfl)); (case hrep => exact Kd.reps_scalar [(-1 : Int)]); intro v15 w15 ho15 hb15 hg15 hn15; obtain ⟨A15, c15, hv15⟩ : ∃ A c, v15 = Value.slice A 1 c := Kd.R_slice ho15; subst hv15; have HO15 := Aside0.mk ho15; have HB15 := Aside0.mk hb15; have HG15 := Aside0.mk (lit_below hg15); have HN15 := Aside0.mk hn15; clear ho15 hb15 hg15 hn15) | ((with_reducible refine gate_dst (N := 17) rfl ?_); refine box_event ?hg (N := 17) ?hd (cs := #[.slice A13 1 c13, .slice A14 1 c14, .slice A15 1 c15]) (t := 81) ?hr ?_; (case hd => rfl); (case hg => rfl); (case hr => first | (go_simp; done) | (go_simp; rfl)); intro gx hgx w17 hbox hb; have HX := Aside0.mk hbox; have HGX := Aside0.mk hgx; have HG17 := Aside0.mk hb; clear hgx hbox hb) | ((with_reducible refine gate_dst (N := 18) rfl ?_); refine nk_map_event rfl rfl ?_; intro gm hgm w18 hm hb hl; have HM := Aside0.mk hm; have HGM := Aside0.mk hgm; have HG18 := Aside0.mk hb; clear hgm hm hb hl) | (go_at_call 85; refine (impl_keyOf.calls A1 c1 m _ ?hC).mono ?_; (case hC => exact Kd.C_below (Kd.R_reads' HMR.out).2.2 (below_then HB15.out HB15.out.size (below_then HG17.out HG17.out.size HG18.out))); rintro e w20 ⟨rfl, hb⟩; have HMK := Aside0.mk (MK.init HOK.out HBA.out HL.out HN13.out HB13.out HO14.out HN14.out HG14.out HO15.out HN15.out HG15.out HX.out HGX.out HG17.out HM.out HGM.out HG18.out hb); clear hb HL HN13 HB13 HO14 HN14 HG14 HO15 HN15 HG15 HX HGX HG17 HM HGM HG18 HB14 HB15) | (refine nk_put_event rfl (Or.inl rfl) (b := gm) (L := []) (y := m) rfl rfl rfl (wf8_of HWF.out.1) HMK.out.M (by decide) ?_; intro w21 hm hg; have HMK2 := Aside0.mk (HMK.out.map hg hm); clear hm hg HMK))
  go_loopg [8] 402 (fun kq v8 w' => ∃ (x : Int) (i : Nat) (vL vF vS : Value) (L : List (List Int)) (F S : List Int), v8 = .int .i64 x ∧ Aside0 (x = (i : Int)) ∧ Aside0 (L.length ≤ 400 ∧ F.length = L.length ∧ S.length = L.length ∧ i ≤ L.length) ∧ Aside0 (∀ x ∈ L, wf8 x) ∧ Aside0 (mfOut (net_fired.f a0 st) st.length kq i L F S = some r) ∧ Aside0 (MK Try.prog okR (fun _ => False) base gx gm #[vL, vF, vS] vL vF vS (.slice none 0 0) w w' L L F S []))
  case atStart => exact ⟨0, 0, _, _, _, [m], [-1], [-1], rfl, ⟨rfl⟩, ⟨by simp⟩, ⟨by simpa using wf8_of HWF.out.1⟩, HF, HMK2⟩
  case round =>
    clear HMK2 HF
    obtain ⟨x, i, vL, vF, vS, L, F, S, rfl, HX, HLN, HWL, HF, HMK⟩ := hrel
    obtain ⟨AL, cL, hvL⟩ := Kd.S_slice HMK.out.L
    obtain ⟨AF, cF, hvF⟩ := Kd.R_slice HMK.out.F
    obtain ⟨AS, cS, hvS⟩ := Kd.R_slice HMK.out.S
    subst hvL
    subst hvF
    subst hvS
    have hx0 : wr.cell? ⟨gx, 0, none⟩ = some (.slice AL L.length cL) := (blk_cell HMK.out.X 0).trans rfl
    cases gk with
    | zero => have h := HF.out; simp only [mfOut] at h; cases h
    | succ k1 =>
    have hF := HF.out
    simp only [mfOut] at hF
    by_cases hi : i < L.length
    case neg =>
      rw [if_neg hi] at hF
      obtain rfl := Option.some.inj hF
      have hib : decide (x < (L.length : Int)) = false := decide_eq_false (by have := HX.out; omega)
      clear hi hF
      go_wp2
      go_ret2
      exact Or.inr ⟨_, gx, gm, _, _, _, L, rfl, rfl, HMK.out⟩
    case pos =>
      rw [if_pos hi] at hF
      have hib : decide (x < (L.length : Int)) = true := decide_eq_true (by have := HX.out; omega)
      have HI := Aside0.mk hi
      have HIN := Aside0.mk hF
      have hz1 : wr.cell? ⟨gb, 1, none⟩ = some (.slice A st.length cc) := (blk_cell (blk_below HBK.out HMK.out.B) 1).trans rfl
      clear hi hF HF
      go_wp2
      go_loopg [36] st.length (fun kq v36 w' => ∃ (y : Int) (j : Nat) (vL vF vS : Value) (L : List (List Int)) (F S : List Int), v36 = .int .i64 y ∧ Aside0 (y = (j : Int)) ∧ Aside0 (j + kq = st.length) ∧ Aside0 (L.length ≤ 400 ∧ F.length = L.length ∧ S.length = L.length ∧ i < L.length) ∧ Aside0 (∀ x ∈ L, wf8 x) ∧ Aside0 (((mfIn (net_fired.f a0 st) st.length i kq L F S).bind (fun o => match o with | none => some none | some q => mfOut (net_fired.f a0 st) st.length k1 (i + 1) q.1 q.2.1 q.2.2)) = some r) ∧ Aside0 (MK Try.prog okR (fun _ => False) base gx gm #[vL, vF, vS] vL vF vS (.slice none 0 0) w w' L L F S []))
      case atStart => exact ⟨0, 0, _, _, _, L, F, S, rfl, ⟨rfl⟩, ⟨by omega⟩, ⟨by have := HLN.out; have := HI.out; omega⟩, HWL, HIN, HMK⟩
      case round =>
        clear HMK HIN HLN HWL HI hx0 hz1 hib
        obtain ⟨y, j, vL, vF, vS, L, F, S, rfl, HY, HJ, HLN, HWL, HIN, HMK⟩ := hrel
        obtain ⟨AL, cL, hvL⟩ := Kd.S_slice HMK.out.L
        obtain ⟨AF, cF, hvF⟩ := Kd.R_slice HMK.out.F
        obtain ⟨AS, cS, hvS⟩ := Kd.R_slice HMK.out.S
        subst hvL
        subst hvF
        subst hvS
        cases gk with
        | zero =>
          have hjb : decide (y < (st.length : Int)) = false := decide_eq_false (by have := HJ.out; have := HY.out; omega)
          have HIN2 := Aside0.mk (show mfOut (net_fired.f a0 st) st.length k1 (i + 1) L F S = some r from HIN.out)
          have HW := Aside0.mk (show wrap64 (x + 1) = ((i + 1 : Nat) : Int) by unfold wrap64; have := HLN.out; have := HX.out; omega)
          go_wp2
          go_roundg k1
          case measure => omega
          case rel => exact ⟨wrap64 (x + 1), i + 1, _, _, _, L, F, S, rfl, ⟨HW.out⟩, ⟨by have := HLN.out; omega⟩, HWL, HIN2, HMK⟩
        | succ d =>
          have hjb : decide (y < (st.length : Int)) = true := decide_eq_true (by have := HJ.out; have := HY.out; omega)
          obtain ⟨ad, B, dd, eA, hxr, hdd, hCr⟩ := at_row HMK.out.L i HLN.out.2.2.2
          subst eA
          obtain ⟨row, hrow⟩ : ∃ row, row = L.getD i [] := ⟨_, rfl⟩
          rw [← hrow] at hxr hdd hCr
          have hI := HIN.out
          simp only [mfIn] at hI
          rw [show st.length - (d + 1) = j by have := HJ.out; omega, ← hrow, ← HY.out] at hI
          rw [show i = x.toNat by rw [HX.out, Int.toNat_natCast]] at hxr
          obtain ⟨o, ho, hr⟩ := Option.bind_eq_some_iff.1 hI
          obtain ⟨⟨z, b⟩, hfi, ho⟩ := Option.bind_eq_some_iff.1 ho
          simp only at ho
          have HFI := Aside0.mk hfi
          have HO := Aside0.mk ho
          have HR := Aside0.mk hr
          have HCR := Aside0.mk hCr
          have HDD := Aside0.mk hdd
          clear hI hfi ho hr hCr hdd hrow HIN
          have hx0 : wr.cell? ⟨gx, 0, none⟩ = some (.slice (some ad) L.length cL) := (blk_cell HMK.out.X 0).trans rfl
          have p8 : ((0 : Int) ≤ x) = True := eq_true (by have := HX.out; omega)
          have q8 : (x < (L.length : Int)) = True := eq_true (by have := HLN.out; have := HX.out; omega)
          have q9 : decide (x < (L.length : Int)) = true := decide_eq_true (by have := HLN.out; have := HX.out; omega)
          have HW := Aside0.mk (show wrap64 (y + 1) = ((j + 1 : Nat) : Int) by unfold wrap64; have := HJ.out; have := HWF.out.2; have := HY.out; omega)
          have HST2 := Aside0.mk (Kd.C_below HST.out HMK.out.B)
          have HBK2 := Aside0.mk (blk_below HBK.out HMK.out.B)
          cases b with
          | false =>
            have HO2 := Aside0.mk (show mfIn (net_fired.f a0 st) st.length i d L F S = some o from HO.out)
            go_wp2_with (first | (go_at_call 59; refine (net_fired.calls gb A cc a0 st B dd row y z false wr HBK2.out HST2.out HCR.out HDD.out HFI.out).mono ?_; rintro e w2 ⟨vn, rfl, hr, hb⟩; obtain ⟨An, cn, hvn⟩ := Kd.R_slice hr; subst hvn; have HN := Aside0.mk (HMK.out.new hr hb); clear hr hb hx0 hxr HMK))
            go_roundg d
            case measure => omega
            case rel => exact ⟨wrap64 (y + 1), j + 1, _, _, _, L, F, S, rfl, ⟨HW.out⟩, ⟨by have := HJ.out; omega⟩, HLN, HWL, ⟨by rw [HO2.out]; exact HR.out⟩, ⟨HN.out.forget⟩⟩
          | true =>
            have hO := HO.out
            rw [if_pos rfl] at hO
            by_cases hwy : wf8b z = true
            case neg => rw [if_neg hwy] at hO; cases hO
            rw [if_pos hwy] at hO
            have HWY := Aside0.mk hwy
            clear hwy HO
            cases hc : (L.map pad8).contains (pad8 z) with
            | true =>
              rw [if_pos hc] at hO
              have HO2 := Aside0.mk hO
              have HC := Aside0.mk hc
              clear hO hc
              go_wp2_with (first | (go_at_call 59; refine (net_fired.calls gb A cc a0 st B dd row y z true wr HBK2.out HST2.out HCR.out HDD.out HFI.out).mono ?_; rintro e w2 ⟨vn, rfl, hr, hb⟩; obtain ⟨An, cn, hvn⟩ := Kd.R_slice hr; subst hvn; have HN := Aside0.mk (HMK.out.new hr hb); clear hr hb hx0 hxr HMK) | (go_at_call 85; refine (impl_keyOf.calls An cn z _ (Kd.R_reads' HN.out.R).2.2).mono ?_; rintro e w3 ⟨rfl, hb⟩; have HN2 := Aside0.mk (HN.out.below hb); clear hb HN) | ((with_reducible refine gate_dst (N := 58) rfl ?_); (try (refine gate_guard (by rfl) ?_; dsimp only)); refine nk_look_event rfl (m := .tmp 55) (x := .tmp 57) rfl (b := gm) (L := L) (y := z) rfl rfl HWL.out (wf8_of HWY.out) HN2.out.M HC.out ?_))
              go_roundg d
              case measure => omega
              case rel => exact ⟨wrap64 (y + 1), j + 1, _, _, _, L, F, S, rfl, ⟨HW.out⟩, ⟨by have := HJ.out; omega⟩, HLN, HWL, ⟨by rw [HO2.out]; exact HR.out⟩, ⟨HN2.out.forget⟩⟩
            | false =>
              rw [if_neg (by rw [hc]; decide)] at hO
              have HC := Aside0.mk hc
              by_cases h4 : L.length = 400
              case pos =>
                rw [if_pos h4] at hO
                have h4b : ((L.length : Int) == 400) = true := beq_iff_eq.mpr (by omega)
                obtain rfl := Option.some.inj hO
                have HR2 := Aside0.mk (show some none = some r from HR.out)
                clear hO hc h4
                go_wp2_with (first | (go_at_call 59; refine (net_fired.calls gb A cc a0 st B dd row y z true wr HBK2.out HST2.out HCR.out HDD.out HFI.out).mono ?_; rintro e w2 ⟨vn, rfl, hr, hb⟩; obtain ⟨An, cn, hvn⟩ := Kd.R_slice hr; subst hvn; have HN := Aside0.mk (HMK.out.new hr hb); clear hr hb hx0 hxr HMK) | (go_at_call 85; refine (impl_keyOf.calls An cn z _ (Kd.R_reads' HN.out.R).2.2).mono ?_; rintro e w3 ⟨rfl, hb⟩; have HN2 := Aside0.mk (HN.out.below hb); have hx1 : w3.cell? ⟨gx, 0, none⟩ = some (.slice (some ad) L.length cL) := (blk_cell HN2.out.X 0).trans rfl; clear hb HN) | ((with_reducible refine gate_dst (N := 58) rfl ?_); (try (refine gate_guard (by rfl) ?_; dsimp only)); refine nk_look_event rfl (m := .tmp 55) (x := .tmp 57) rfl (b := gm) (L := L) (y := z) rfl rfl HWL.out (wf8_of HWY.out) HN2.out.M HC.out ?_))
                go_ret2
                exact Or.inl ⟨(Option.some.inj HR2.out).symm, rfl, HN2.out.B⟩
              case neg =>
                rw [if_neg h4] at hO
                have h4b : ((L.length : Int) == 400) = false := beq_eq_false_iff_ne.mpr (by omega)
                have HO2 := Aside0.mk hO
                have H4 := Aside0.mk h4
                clear hO hc h4
                go_wp2_with (first | (go_at_call 59; refine (net_fired.calls gb A cc a0 st B dd row y z true wr HBK2.out HST2.out HCR.out HDD.out HFI.out).mono ?_; rintro e w2 ⟨vn, rfl, hr, hb⟩; obtain ⟨An, cn, hvn⟩ := Kd.R_slice hr; subst hvn; have HN := Aside0.mk (HMK.out.new hr hb); clear hr hb hx0 hxr HMK) | (go_at_call 85; refine (impl_keyOf.calls An cn z _ (Kd.R_reads' HN.out.R).2.2).mono ?_; rintro e w3 ⟨rfl, hb⟩; have HN2 := Aside0.mk (HN.out.below hb); have hx1 : w3.cell? ⟨gx, 0, none⟩ = some (.slice (some ad) L.length cL) := (blk_cell HN2.out.X 0).trans rfl; clear hb HN) | ((with_reducible refine gate_dst (N := 58) rfl ?_); (try (refine gate_guard (by rfl) ?_; dsimp only)); refine nk_look_event rfl (m := .tmp 55) (x := .tmp 57) rfl (b := gm) (L := L) (y := z) rfl rfl HWL.out (wf8_of HWY.out) HN2.out.M HC.out ?_) | (go_at_call 85; refine (impl_keyOf.calls An cn z _ (Kd.R_reads' HN2.out.R).2.2).mono ?_; rintro e w4 ⟨rfl, hb⟩; have HN3 := Aside0.mk (HN2.out.below hb); clear hb hx1) | (refine nk_put_event rfl (Or.inr rfl) (b := gm) (L := L) (y := z) rfl rfl rfl (wf8_of HWY.out) HN3.out.M (by have := HLN.out; unfold maxLen; omega) ?_; intro w5 hm hg; have HN4 := Aside0.mk (HN3.out.map hg hm); clear hm hg HN3 HN2))
                have HT1 : Aside0 (∀ k, (Value.slice (some ad) L.length cL).ownBlock = some k → k < w5.heap.size) := ⟨fun k hk => by obtain ⟨cells, hc⟩ := Kd.S_typed HN4.out.L k hk; exact (Array.getElem?_eq_some_iff.1 hc).1⟩
                have HT2 : Aside0 (∀ k, (Value.slice AF F.length cF).ownBlock = some k → k < w5.heap.size) := ⟨Kd.R_lt HN4.out.F⟩
                have HT3 : Aside0 (∀ k, (Value.slice AS S.length cS).ownBlock = some k → k < w5.heap.size) := ⟨Kd.R_lt HN4.out.S⟩
                have hM := HN4.out.below (below_drew1 (Below.refl w5.heap.size w5))
                have hN : w5.heap.size ≤ (World.drew w5).heap.size := Nat.le_refl _
                refine start_ (n := 33) (S := (fun w' => w'.cell? ⟨gx, 0, none⟩ = some (.slice (some ad) L.length cL) ∧ w'.cell? ⟨gx, 1, none⟩ = some (.slice AF F.length cF) ∧ w'.cell? ⟨gx, 2, none⟩ = some (.slice AS S.length cS))) (ds := [26, 29, 32]) #[false, false, false, false, false, false, false, false, false, false, false, false, false, false, false, false, false, false, false, false, false, false, false, false, false, false, false, false, false, false, false, false, false] (by kernel_rfl) rfl rfl ⟨(blk_cell hM.X 0).trans rfl, (blk_cell hM.X 1).trans rfl, (blk_cell hM.X 2).trans rfl⟩ (fun hHeld => ?_)
                clear HN4
                generalize World.drew w5 = W at hM hN hHeld ⊢
                generalize w5.heap.size = N at HT1 HT2 HT3 hN
                refine pure_ (i := 0) (N := some 69) (v := ?_) (a' := ?_) #[true, false, false, false, false, false, false, false, false, false, false, false, false, false, false, false, false, false, false, false, false, false, false, false, false, false, false, false, false, false, false, false, false] rfl rfl (by kernel_rfl) (fun _ _ _ h => h) (Or.inl ⟨by rfl, ?_⟩) ?_ ?_
                rotate_left
                · intro w'
                  go_simp
                  with_reducible rfl
                rotate_left
                · simp only [Act.put, List.setIfInBounds_toArray, List.set_cons_zero, List.set_cons_succ, i64_w, i32_w]
                  rfl
                refine pure_ (i := 1) (N := some 70) (v := ?_) (a' := ?_) #[true, true, false, false, false, false, false, false, false, false, false, false, false, false, false, false, false, false, false, false, false, false, false, false, false, false, false, false, false, false, false, false, false] rfl rfl (by kernel_rfl) (fun _ _ _ h => h) (Or.inl ⟨by rfl, ?_⟩) ?_ ?_
                rotate_left
                · intro w'
                  go_simp
                  with_reducible rfl
                rotate_left
                · simp only [Act.put, List.setIfInBounds_toArray, List.set_cons_zero, List.set_cons_succ, i64_w, i32_w]
                  rfl
                refine pure_ (i := 2) (N := some 71) (v := ?_) (a' := ?_) #[true, true, true, false, false, false, false, false, false, false, false, false, false, false, false, false, false, false, false, false, false, false, false, false, false, false, false, false, false, false, false, false, false] rfl rfl (by kernel_rfl) (fun _ _ _ h => h) (Or.inl ⟨by rfl, ?_⟩) ?_ ?_
                rotate_left
                · intro w'
                  go_simp
                  with_reducible rfl
                rotate_left
                · simp only [Act.put, List.setIfInBounds_toArray, List.set_cons_zero, List.set_cons_succ, i64_w, i32_w]
                  rfl
                refine pure_ (i := 3) (N := some 72) (v := ?_) (a' := ?_) #[true, true, true, true, false, false, false, false, false, false, false, false, false, false, false, false, false, false, false, false, false, false, false, false, false, false, false, false, false, false, false, false, false] rfl rfl (by kernel_rfl) (fun _ _ _ h => h) (Or.inl ⟨by rfl, ?_⟩) ?_ ?_
                rotate_left
                · intro w'
                  go_simp
                  with_reducible rfl
                rotate_left
                · simp only [Act.put, List.setIfInBounds_toArray, List.set_cons_zero, List.set_cons_succ, i64_w, i32_w]
                  rfl
                refine pure_ (i := 4) (N := some 73) (v := ?_) (a' := ?_) #[true, true, true, true, true, false, false, false, false, false, false, false, false, false, false, false, false, false, false, false, false, false, false, false, false, false, false, false, false, false, false, false, false] rfl rfl (by kernel_rfl) (fun _ _ _ h => h) (Or.inl ⟨by rfl, ?_⟩) ?_ ?_
                rotate_left
                · intro w'
                  go_simp
                  with_reducible rfl
                rotate_left
                · simp only [Act.put, List.setIfInBounds_toArray, List.set_cons_zero, List.set_cons_succ, i64_w, i32_w]
                  rfl
                refine pure_ (i := 5) (N := some 74) (v := ?_) (a' := ?_) #[true, true, true, true, true, true, false, false, false, false, false, false, false, false, false, false, false, false, false, false, false, false, false, false, false, false, false, false, false, false, false, false, false] rfl rfl (by kernel_rfl) (fun _ _ _ h => h) (Or.inl ⟨by rfl, ?_⟩) ?_ ?_
                rotate_left
                · intro w'
                  go_simp
                  with_reducible rfl
                rotate_left
                · simp only [Act.put, List.setIfInBounds_toArray, List.set_cons_zero, List.set_cons_succ, i64_w, i32_w]
                  rfl
                refine take_ (i := 6) (N := some 75) (v := ?_) (a' := ?_) #[true, true, true, true, true, true, true, false, false, false, false, false, false, false, false, false, false, false, false, false, false, false, false, false, false, false, false, false, false, false, false, false, false] rfl rfl (by kernel_rfl) (fun _ _ _ h => h) (Or.inl ⟨by rfl, ?_⟩) hHeld ?_ ?_
                rotate_left
                · rintro w' ⟨s0, s1, s2⟩
                  go_simp
                  with_reducible rfl
                rotate_left
                · simp only [Act.put, List.setIfInBounds_toArray, List.set_cons_zero, List.set_cons_succ, i64_w, i32_w]
                  rfl
                refine pure_ (i := 7) (N := some 76) (v := ?_) (a' := ?_) #[true, true, true, true, true, true, true, true, false, false, false, false, false, false, false, false, false, false, false, false, false, false, false, false, false, false, false, false, false, false, false, false, false] rfl rfl (by kernel_rfl) (fun _ _ _ h => h) (Or.inl ⟨by rfl, ?_⟩) ?_ ?_
                rotate_left
                · intro w'
                  go_simp
                  with_reducible rfl
                rotate_left
                · simp only [Act.put, List.setIfInBounds_toArray, List.set_cons_zero, List.set_cons_succ, i64_w, i32_w]
                  rfl
                refine pure_ (i := 10) (N := some 79) (v := ?_) (a' := ?_) #[true, true, true, true, true, true, true, true, false, false, true, false, false, false, false, false, false, false, false, false, false, false, false, false, false, false, false, false, false, false, false, false, false] rfl rfl (by kernel_rfl) (fun _ _ _ h => h) (Or.inl ⟨by rfl, ?_⟩) ?_ ?_
                rotate_left
                · intro w'
                  go_simp
                  with_reducible rfl
                rotate_left
                · simp only [Act.put, List.setIfInBounds_toArray, List.set_cons_zero, List.set_cons_succ, i64_w, i32_w]
                  rfl
                refine pure_ (i := 11) (N := some 80) (v := ?_) (a' := ?_) #[true, true, true, true, true, true, true, true, false, false, true, true, false, false, false, false, false, false, false, false, false, false, false, false, false, false, false, false, false, false, false, false, false] rfl rfl (by kernel_rfl) (fun _ _ _ h => h) (Or.inl ⟨by rfl, ?_⟩) ?_ ?_
                rotate_left
                · intro w'
                  go_simp
                  with_reducible rfl
                rotate_left
                · simp only [Act.put, List.setIfInBounds_toArray, List.set_cons_zero, List.set_cons_succ, i64_w, i32_w]
                  rfl
                refine pure_ (i := 12) (N := some 81) (v := ?_) (a' := ?_) #[true, true, true, true, true, true, true, true, false, false, true, true, true, false, false, false, false, false, false, false, false, false, false, false, false, false, false, false, false, false, false, false, false] rfl rfl (by kernel_rfl) (fun _ _ _ h => h) (Or.inl ⟨by rfl, ?_⟩) ?_ ?_
                rotate_left
                · intro w'
                  go_simp
                  with_reducible rfl
                rotate_left
                · simp only [Act.put, List.setIfInBounds_toArray, List.set_cons_zero, List.set_cons_succ, i64_w, i32_w]
                  rfl
                refine take_ (i := 13) (N := some 82) (v := ?_) (a' := ?_) #[true, true, true, true, true, true, true, true, false, false, true, true, true, true, false, false, false, false, false, false, false, false, false, false, false, false, false, false, false, false, false, false, false] rfl rfl (by kernel_rfl) (fun _ _ _ h => h) (Or.inl ⟨by rfl, ?_⟩) hHeld ?_ ?_
                rotate_left
                · rintro w' ⟨s0, s1, s2⟩
                  go_simp
                  with_reducible rfl
                rotate_left
                · simp only [Act.put, List.setIfInBounds_toArray, List.set_cons_zero, List.set_cons_succ, i64_w, i32_w]
                  rfl
                refine pure_ (i := 14) (N := some 83) (v := ?_) (a' := ?_) #[true, true, true, true, true, true, true, true, false, false, true, true, true, true, true, false, false, false, false, false, false, false, false, false, false, false, false, false, false, false, false, false, false] rfl rfl (by kernel_rfl) (fun _ _ _ h => h) (Or.inl ⟨by rfl, ?_⟩) ?_ ?_
                rotate_left
                · intro w'
                  go_simp
                  with_reducible rfl
                rotate_left
                · simp only [Act.put, List.setIfInBounds_toArray, List.set_cons_zero, List.set_cons_succ, i64_w, i32_w]
                  rfl
                refine pure_ (i := 17) (N := some 86) (v := ?_) (a' := ?_) #[true, true, true, true, true, true, true, true, false, false, true, true, true, true, true, false, false, true, false, false, false, false, false, false, false, false, false, false, false, false, false, false, false] rfl rfl (by kernel_rfl) (fun _ _ _ h => h) (Or.inl ⟨by rfl, ?_⟩) ?_ ?_
                rotate_left
                · intro w'
                  go_simp
                  with_reducible rfl
                rotate_left
                · simp only [Act.put, List.setIfInBounds_toArray, List.set_cons_zero, List.set_cons_succ, i64_w, i32_w]
                  rfl
                refine pure_ (i := 18) (N := some 87) (v := ?_) (a' := ?_) #[true, true, true, true, true, true, true, true, false, false, true, true, true, true, true, false, false, true, true, false, false, false, false, false, false, false, false, false, false, false, false, false, false] rfl rfl (by kernel_rfl) (fun _ _ _ h => h) (Or.inl ⟨by rfl, ?_⟩) ?_ ?_
                rotate_left
                · intro w'
                  go_simp
                  with_reducible rfl
                rotate_left
                · simp only [Act.put, List.setIfInBounds_toArray, List.set_cons_zero, List.set_cons_succ, i64_w, i32_w]
                  rfl
                refine pure_ (i := 19) (N := some 88) (v := ?_) (a' := ?_) #[true, true, true, true, true, true, true, true, false, false, true, true, true, true, true, false, false, true, true, true, false, false, false, false, false, false, false, false, false, false, false, false, false] rfl rfl (by kernel_rfl) (fun _ _ _ h => h) (Or.inl ⟨by rfl, ?_⟩) ?_ ?_
                rotate_left
                · intro w'
                  go_simp
                  with_reducible rfl
                rotate_left
                · simp only [Act.put, List.setIfInBounds_toArray, List.set_cons_zero, List.set_cons_succ, i64_w, i32_w]
                  rfl
                refine take_ (i := 20) (N := some 89) (v := ?_) (a' := ?_) #[true, true, true, true, true, true, true, true, false, false, true, true, true, true, true, false, false, true, true, true, true, false, false, false, false, false, false, false, false, false, false, false, false] rfl rfl (by kernel_rfl) (fun _ _ _ h => h) (Or.inl ⟨by rfl, ?_⟩) hHeld ?_ ?_
                rotate_left
                · rintro w' ⟨s0, s1, s2⟩
                  go_simp
                  with_reducible rfl
                rotate_left
                · simp only [Act.put, List.setIfInBounds_toArray, List.set_cons_zero, List.set_cons_succ, i64_w, i32_w]
                  rfl
                refine pure_ (i := 21) (N := some 90) (v := ?_) (a' := ?_) #[true, true, true, true, true, true, true, true, false, false, true, true, true, true, true, false, false, true, true, true, true, true, false, false, false, false, false, false, false, false, false, false, false] rfl rfl (by kernel_rfl) (fun _ _ _ h => h) (Or.inl ⟨by rfl, ?_⟩) ?_ ?_
                rotate_left
                · intro w'
                  go_simp
                  with_reducible rfl
                rotate_left
                · simp only [Act.put, List.setIfInBounds_toArray, List.set_cons_zero, List.set_cons_succ, i64_w, i32_w]
                  rfl
                clear hHeld
                refine join_ (σ := Value × Value × Value × Value × Value × Value) 9 #[true, true, true, true, true, true, true, true, true, true, true, true, true, true, true, true, true, true, true, true, true, true, true, true, false, false, false, false, false, false, false, false, false] (fun s => [(77, s.1), (84, s.2.1), (91, s.2.2.1), (78, s.2.2.2.1), (85, s.2.2.2.2.1), (92, s.2.2.2.2.2)]) (fun s w' => (MK Try.prog okR (fun _ => False) base gx gm #[.slice (some ad) L.length cL, .slice AF F.length cF, .slice AS S.length cS] (s.2.2.2.1) (s.2.2.2.2.1) (s.2.2.2.2.2) (.slice none 0 0) w w' (L ++ [z]) (L ++ [z]) (F ++ [x]) (S ++ [y]) []) ∧ True ∧ True ∧ True ∧ N ≤ w'.heap.size) ?j111_3 (fun J111_3 => ?_)
                rotate_left
                simp only [putAll, Act.put, List.setIfInBounds_toArray, List.set_cons_zero, List.set_cons_succ] at J111_3
                rotate_left
                case j111_3 =>
                  clear hM hN
                  rintro ⟨u1, u2, u3, v1, v2, v3⟩ W ⟨hM, -, -, -, hN⟩
                  dsimp only at hM
                  refine norm_ (a' := ?_) (by simp only [putAll, Act.put, List.setIfInBounds_toArray, List.set_cons_zero, List.set_cons_succ]; rfl) ?_
                  obtain ⟨A1', n1', c1', hv1⟩ : ∃ A n c, v1 = Value.slice A n c := by obtain ⟨A, c, h⟩ := Kd.S_slice hM.L; exact ⟨A, _, c, h⟩
                  subst hv1
                  obtain ⟨A2', n2', c2', hv2⟩ : ∃ A n c, v2 = Value.slice A n c := by obtain ⟨A, c, h⟩ := Kd.R_slice hM.F; exact ⟨A, _, c, h⟩
                  subst hv2
                  obtain ⟨A3', n3', c3', hv3⟩ : ∃ A n c, v3 = Value.slice A n c := by obtain ⟨A, c, h⟩ := Kd.R_slice hM.S; exact ⟨A, _, c, h⟩
                  subst hv3
                  refine pure_ (i := 24) (N := some 93) (v := ?_) (a' := ?_) #[true, true, true, true, true, true, true, true, true, true, true, true, true, true, true, true, true, true, true, true, true, true, true, true, true, false, false, false, false, false, false, false, false] rfl rfl (by kernel_rfl) (fun _ _ _ h => h) (Or.inl ⟨by rfl, ?_⟩) ?_ ?_
                  rotate_left
                  · intro w'
                    go_simp
                    with_reducible rfl
                  rotate_left
                  · simp only [Act.put, List.setIfInBounds_toArray, List.set_cons_zero, List.set_cons_succ, i64_w, i32_w]
                    rfl
                  refine pure_ (i := 25) (N := some 94) (v := ?_) (a' := ?_) #[true, true, true, true, true, true, true, true, true, true, true, true, true, true, true, true, true, true, true, true, true, true, true, true, true, true, false, false, false, false, false, false, false] rfl rfl (by kernel_rfl) (fun _ _ _ h => h) (Or.inl ⟨by rfl, ?_⟩) ?_ ?_
                  rotate_left
                  · intro w'
                    go_simp
                    with_reducible rfl
                  rotate_left
                  · simp only [Act.put, List.setIfInBounds_toArray, List.set_cons_zero, List.set_cons_succ, i64_w, i32_w]
                    rfl
                  refine last_ (i := 26) (N := none) #[true, true, true, true, true, true, true, true, true, true, true, true, true, true, true, true, true, true, true, true, true, true, true, true, true, true, true, false, false, false, false, false, false] rfl rfl (by kernel_rfl) (by decide) (fun K hK => ?_)
                  have hs_ : World.cell? W ⟨gx, 0, none⟩ = some (.slice (some ad) L.length cL) := (blk_cell hM.X 0).trans rfl
                  have hf_ : World.frozen? W ⟨gx, 0, none⟩ = false := blk_frozen hM.X 0
                  refine skip_ (w1 := World.setCell W ⟨gx, 0, none⟩ (.slice A1' n1' c1')) (by rfl) rfl (by first | (go_simp; done) | (go_simp; rfl)) ?_
                  have h1 := hM.put 0 (.slice A1' n1' c1') (blk_put hM.X 0 (.slice A1' n1' c1') (cs' := #[(.slice A1' n1' c1'), .slice AF F.length cF, .slice AS S.length cS]) rfl)
                  clear hs_ hf_
                  generalize World.setCell W ⟨gx, 0, none⟩ (.slice A1' n1' c1') = W0 at h1 ⊢
                  refine hK.out _ _ ?_
                  clear hK K
                  clear hM
                  refine pure_ (i := 27) (N := some 95) (v := ?_) (a' := ?_) #[true, true, true, true, true, true, true, true, true, true, true, true, true, true, true, true, true, true, true, true, true, true, true, true, true, true, true, true, false, false, false, false, false] rfl rfl (by kernel_rfl) (fun _ _ _ h => h) (Or.inl ⟨by rfl, ?_⟩) ?_ ?_
                  rotate_left
                  · intro w'
                    go_simp
                    with_reducible rfl
                  rotate_left
                  · simp only [Act.put, List.setIfInBounds_toArray, List.set_cons_zero, List.set_cons_succ, i64_w, i32_w]
                    rfl
                  refine pure_ (i := 28) (N := some 96) (v := ?_) (a' := ?_) #[true, true, true, true, true, true, true, true, true, true, true, true, true, true, true, true, true, true, true, true, true, true, true, true, true, true, true, true, true, false, false, false, false] rfl rfl (by kernel_rfl) (fun _ _ _ h => h) (Or.inl ⟨by rfl, ?_⟩) ?_ ?_
                  rotate_left
                  · intro w'
                    go_simp
                    with_reducible rfl
                  rotate_left
                  · simp only [Act.put, List.setIfInBounds_toArray, List.set_cons_zero, List.set_cons_succ, i64_w, i32_w]
                    rfl
                  refine last_ (i := 29) (N := none) #[true, true, true, true, true, true, true, true, true, true, true, true, true, true, true, true, true, true, true, true, true, true, true, true, true, true, true, true, true, true, false, false, false] rfl rfl (by kernel_rfl) (by decide) (fun K hK => ?_)
                  have hs_ : World.cell? W0 ⟨gx, 1, none⟩ = some (.slice AF F.length cF) := (blk_cell h1.X 1).trans rfl
                  have hf_ : World.frozen? W0 ⟨gx, 1, none⟩ = false := blk_frozen h1.X 1
                  refine skip_ (w1 := World.setCell W0 ⟨gx, 1, none⟩ (.slice A2' n2' c2')) (by rfl) rfl (by first | (go_simp; done) | (go_simp; rfl)) ?_
                  have h2 := h1.put 1 (.slice A2' n2' c2') (blk_put h1.X 1 (.slice A2' n2' c2') (cs' := #[(.slice A1' n1' c1'), (.slice A2' n2' c2'), .slice AS S.length cS]) rfl)
                  clear hs_ hf_
                  generalize World.setCell W0 ⟨gx, 1, none⟩ (.slice A2' n2' c2') = W1 at h2 ⊢
                  refine hK.out _ _ ?_
                  clear hK K
                  clear h1
                  refine pure_ (i := 30) (N := some 97) (v := ?_) (a' := ?_) #[true, true, true, true, true, true, true, true, true, true, true, true, true, true, true, true, true, true, true, true, true, true, true, true, true, true, true, true, true, true, true, false, false] rfl rfl (by kernel_rfl) (fun _ _ _ h => h) (Or.inl ⟨by rfl, ?_⟩) ?_ ?_
                  rotate_left
                  · intro w'
                    go_simp
                    with_reducible rfl
                  rotate_left
                  · simp only [Act.put, List.setIfInBounds_toArray, List.set_cons_zero, List.set_cons_succ, i64_w, i32_w]
                    rfl
                  refine pure_ (i := 31) (N := some 98) (v := ?_) (a' := ?_) #[true, true, true, true, true, true, true, true, true, true, true, true, true, true, true, true, true, true, true, true, true, true, true, true, true, true, true, true, true, true, true, true, false] rfl rfl (by kernel_rfl) (fun _ _ _ h => h) (Or.inl ⟨by rfl, ?_⟩) ?_ ?_
                  rotate_left
                  · intro w'
                    go_simp
                    with_reducible rfl
                  rotate_left
                  · simp only [Act.put, List.setIfInBounds_toArray, List.set_cons_zero, List.set_cons_succ, i64_w, i32_w]
                    rfl
                  refine last_ (i := 32) (N := none) #[true, true, true, true, true, true, true, true, true, true, true, true, true, true, true, true, true, true, true, true, true, true, true, true, true, true, true, true, true, true, true, true, true] rfl rfl (by kernel_rfl) (by decide) (fun K hK => ?_)
                  have hs_ : World.cell? W1 ⟨gx, 2, none⟩ = some (.slice AS S.length cS) := (blk_cell h2.X 2).trans rfl
                  have hf_ : World.frozen? W1 ⟨gx, 2, none⟩ = false := blk_frozen h2.X 2
                  refine skip_ (w1 := World.setCell W1 ⟨gx, 2, none⟩ (.slice A3' n3' c3')) (by rfl) rfl (by first | (go_simp; done) | (go_simp; rfl)) ?_
                  have h3 := h2.put 2 (.slice A3' n3' c3') (blk_put h2.X 2 (.slice A3' n3' c3') (cs' := #[(.slice A1' n1' c1'), (.slice A2' n2' c2'), (.slice A3' n3' c3')]) rfl)
                  clear hs_ hf_
                  generalize World.setCell W1 ⟨gx, 2, none⟩ (.slice A3' n3' c3') = W2 at h3 ⊢
                  refine hK.out _ _ ?_
                  clear hK K
                  clear h2
                  refine done_ (by kernel_rfl) ?_
                  have HME := Aside0.mk h3
                  clear h3
                  go_wp2
                  go_roundg d
                  case measure => omega
                  case rel =>
                    refine ⟨wrap64 (y + 1), j + 1, _, _, _, L ++ [z], F ++ [x], S ++ [y], rfl, ⟨HW.out⟩, ⟨by have := HJ.out; omega⟩, ⟨?_⟩, ⟨?_⟩, ⟨?_⟩, HME⟩
                    · have := HLN.out; have := H4.out; simp only [List.length_append, List.length_singleton]; omega
                    · intro a ha
                      rcases List.mem_append.1 ha with h1 | h1
                      · exact HWL.out a h1
                      · rw [List.mem_singleton] at h1; subst h1; exact wf8_of HWY.out
                    · rw [HX.out, HO2.out]; exact HR.out
                refine join_ (σ := Value × Value × Value × Value × Value × Value) 10 #[true, true, true, true, true, true, true, true, true, true, true, true, true, true, true, true, true, true, true, true, true, true, true, false, false, false, false, false, false, false, false, false, false] (fun s => [(77, s.1), (84, s.2.1), (91, s.2.2.1), (78, s.2.2.2.1), (85, s.2.2.2.2.1)]) (fun s w' => (MK Try.prog okR (fun _ => False) base gx gm #[.slice (some ad) L.length cL, .slice AF F.length cF, .slice AS S.length cS] (s.2.2.2.1) (s.2.2.2.2.1) (.slice AS S.length cS) (.slice none 0 0) w w' (L ++ [z]) (L ++ [z]) (F ++ [x]) S []) ∧ True ∧ True ∧ Lit1 N w' s.2.2.1 (.int .i64 y) ∧ N ≤ w'.heap.size) ?j111_2 (fun J111_2 => ?_)
                rotate_left
                simp only [putAll, Act.put, List.setIfInBounds_toArray, List.set_cons_zero, List.set_cons_succ] at J111_2
                rotate_left
                case j111_2 =>
                  clear hM hN
                  rintro ⟨u1, u2, u3, v1, v2, v3⟩ W ⟨hM, -, -, l3, hN⟩
                  dsimp only at hM l3
                  refine norm_ (a' := ?_) (by simp only [putAll, Act.put, List.setIfInBounds_toArray, List.set_cons_zero, List.set_cons_succ]; rfl) ?_
                  refine one_ (i := 23) (N := some 92) #[true, true, true, true, true, true, true, true, true, true, true, true, true, true, true, true, true, true, true, true, true, true, true, true, false, false, false, false, false, false, false, false, false] rfl rfl (by kernel_rfl) (by decide) (fun K hK => ?_)
                  refine MK.appS hM l3 (by have := HLN.out; omega) (by rfl) (.tmp 89) (.tmp 91) (by rfl) Try.underlying33 (by kernel_rfl) (by rfl) (by rfl) (fun v1' w1 hm' hg => ?_)
                  refine hK.out _ _ ⟨(blk_cell hm'.X 0).trans rfl, (blk_cell hm'.X 1).trans rfl, (blk_cell hm'.X 2).trans rfl⟩ (fun _ => ?_)
                  clear hK K
                  refine norm_ (a' := ?_) (by simp only [Act.put, List.setIfInBounds_toArray, List.set_cons_zero, List.set_cons_succ]; rfl) ?_
                  exact J111_3 (u1, u2, u3, v1, v2, v1') _ ⟨hm', trivial, trivial, trivial, Nat.le_trans hN hg.size⟩
                refine join_ (σ := Value × Value × Value × Value × Value × Value) 11 #[true, true, true, true, true, true, true, true, true, true, true, true, true, true, true, true, true, true, true, true, true, true, false, false, false, false, false, false, false, false, false, false, false] (fun s => [(77, s.1), (84, s.2.1), (78, s.2.2.2.1), (85, s.2.2.2.2.1)]) (fun s w' => (MK Try.prog okR (fun _ => False) base gx gm #[.slice (some ad) L.length cL, .slice AF F.length cF, .slice AS S.length cS] (s.2.2.2.1) (s.2.2.2.2.1) (.slice AS S.length cS) (.slice none 0 0) w w' (L ++ [z]) (L ++ [z]) (F ++ [x]) S []) ∧ True ∧ True ∧ True ∧ N ≤ w'.heap.size) ?j110_2 (fun J110_2 => ?_)
                rotate_left
                simp only [putAll, Act.put, List.setIfInBounds_toArray, List.set_cons_zero, List.set_cons_succ] at J110_2
                rotate_left
                case j110_2 =>
                  clear hM hN
                  rintro ⟨u1, u2, u3, v1, v2, v3⟩ W ⟨hM, -, -, -, hN⟩
                  dsimp only at hM
                  refine norm_ (a' := ?_) (by simp only [putAll, Act.put, List.setIfInBounds_toArray, List.set_cons_zero, List.set_cons_succ]; rfl) ?_
                  refine one_ (i := 22) (N := some 91) #[true, true, true, true, true, true, true, true, true, true, true, true, true, true, true, true, true, true, true, true, true, true, true, false, false, false, false, false, false, false, false, false, false] rfl rfl (by kernel_rfl) (by decide) (fun K hK => ?_)
                  have hm' := hM.below (show Below W.heap.size W (W.alloc (.cells #[.int .i64 y] 3)) from (below_alloc (Below.refl _ _) _))
                  refine value_ (w1 := W.alloc (.cells #[.int .i64 y] 3)) (v := .slice (some ⟨W.heap.size, 0, none⟩) 1 1) (by rfl) rfl (by first | (go_simp; done) | (go_simp; rfl)) ?_
                  refine hK.out _ _ ⟨(blk_cell hm'.X 0).trans rfl, (blk_cell hm'.X 1).trans rfl, (blk_cell hm'.X 2).trans rfl⟩ (fun _ => ?_)
                  clear hK K
                  refine norm_ (a' := ?_) (by simp only [Act.put, List.setIfInBounds_toArray, List.set_cons_zero, List.set_cons_succ]; rfl) ?_
                  exact J111_2 (u1, u2, (.slice (some ⟨W.heap.size, 0, none⟩) 1 1), v1, v2, v3) _ ⟨hm', trivial, trivial, Lit1.new hN, Nat.le_trans hN (below_alloc (Below.refl W.heap.size W) _).size⟩
                refine join_ (σ := Value × Value × Value × Value × Value × Value) 11 #[true, true, true, true, true, true, true, true, true, true, true, true, true, true, true, true, false, true, true, true, true, true, true, false, false, false, false, false, false, false, false, false, false] (fun s => [(77, s.1), (84, s.2.1), (91, s.2.2.1), (78, s.2.2.2.1)]) (fun s w' => (MK Try.prog okR (fun _ => False) base gx gm #[.slice (some ad) L.length cL, .slice AF F.length cF, .slice AS S.length cS] (s.2.2.2.1) (.slice AF F.length cF) (.slice AS S.length cS) (.slice none 0 0) w w' (L ++ [z]) (L ++ [z]) F S []) ∧ True ∧ Lit1 N w' s.2.1 (.int .i64 x) ∧ Lit1 N w' s.2.2.1 (.int .i64 y) ∧ N ≤ w'.heap.size) ?j111_1 (fun J111_1 => ?_)
                rotate_left
                simp only [putAll, Act.put, List.setIfInBounds_toArray, List.set_cons_zero, List.set_cons_succ] at J111_1
                rotate_left
                case j111_1 =>
                  clear hM hN
                  rintro ⟨u1, u2, u3, v1, v2, v3⟩ W ⟨hM, -, l2, l3, hN⟩
                  dsimp only at hM l2 l3
                  refine norm_ (a' := ?_) (by simp only [putAll, Act.put, List.setIfInBounds_toArray, List.set_cons_zero, List.set_cons_succ]; rfl) ?_
                  refine one_ (i := 16) (N := some 85) #[true, true, true, true, true, true, true, true, true, true, true, true, true, true, true, true, true, true, true, true, true, true, true, false, false, false, false, false, false, false, false, false, false] rfl rfl (by kernel_rfl) (by decide) (fun K hK => ?_)
                  refine MK.appF hM l2 (by have := HLN.out; omega) (by rfl) (.tmp 82) (.tmp 84) (by rfl) Try.underlying33 (by kernel_rfl) (by rfl) (by rfl) (fun v1' w1 hm' hg => ?_)
                  refine hK.out _ _ ⟨(blk_cell hm'.X 0).trans rfl, (blk_cell hm'.X 1).trans rfl, (blk_cell hm'.X 2).trans rfl⟩ (fun _ => ?_)
                  clear hK K
                  refine norm_ (a' := ?_) (by simp only [Act.put, List.setIfInBounds_toArray, List.set_cons_zero, List.set_cons_succ]; rfl) ?_
                  exact J111_2 (u1, u2, u3, v1, v1', v3) _ ⟨hm', trivial, trivial, l3.grown hg HT2.out, Nat.le_trans hN hg.size⟩
                refine join_ (σ := Value × Value × Value × Value × Value × Value) 12 #[true, true, true, true, true, true, true, true, true, true, true, true, true, true, true, true, false, true, true, true, true, true, false, false, false, false, false, false, false, false, false, false, false] (fun s => [(77, s.1), (84, s.2.1), (78, s.2.2.2.1)]) (fun s w' => (MK Try.prog okR (fun _ => False) base gx gm #[.slice (some ad) L.length cL, .slice AF F.length cF, .slice AS S.length cS] (s.2.2.2.1) (.slice AF F.length cF) (.slice AS S.length cS) (.slice none 0 0) w w' (L ++ [z]) (L ++ [z]) F S []) ∧ True ∧ Lit1 N w' s.2.1 (.int .i64 x) ∧ True ∧ N ≤ w'.heap.size) ?j110_1 (fun J110_1 => ?_)
                rotate_left
                simp only [putAll, Act.put, List.setIfInBounds_toArray, List.set_cons_zero, List.set_cons_succ] at J110_1
                rotate_left
                case j110_1 =>
                  clear hM hN
                  rintro ⟨u1, u2, u3, v1, v2, v3⟩ W ⟨hM, -, l2, -, hN⟩
                  dsimp only at hM l2
                  refine norm_ (a' := ?_) (by simp only [putAll, Act.put, List.setIfInBounds_toArray, List.set_cons_zero, List.set_cons_succ]; rfl) ?_
                  refine two_ (i := 16) (Ni := some 85) (j := 22) (Nj := some 91) #[true, true, true, true, true, true, true, true, true, true, true, true, true, true, true, true, true, true, true, true, true, true, false, false, false, false, false, false, false, false, false, false, false] #[true, true, true, true, true, true, true, true, true, true, true, true, true, true, true, true, false, true, true, true, true, true, true, false, false, false, false, false, false, false, false, false, false] rfl rfl rfl rfl (by kernel_rfl) (by decide) (by decide) (fun K hK => ?_) (fun K hK => ?_)
                  · refine MK.appF hM l2 (by have := HLN.out; omega) (by rfl) (.tmp 82) (.tmp 84) (by rfl) Try.underlying33 (by kernel_rfl) (by rfl) (by rfl) (fun v1' w1 hm' hg => ?_)
                    refine hK.out _ _ ⟨(blk_cell hm'.X 0).trans rfl, (blk_cell hm'.X 1).trans rfl, (blk_cell hm'.X 2).trans rfl⟩ (fun _ => ?_)
                    clear hK K
                    refine norm_ (a' := ?_) (by simp only [Act.put, List.setIfInBounds_toArray, List.set_cons_zero, List.set_cons_succ]; rfl) ?_
                    exact J110_2 (u1, u2, u3, v1, v1', v3) _ ⟨hm', trivial, trivial, trivial, Nat.le_trans hN hg.size⟩
                  · have hm' := hM.below (show Below W.heap.size W (W.alloc (.cells #[.int .i64 y] 3)) from (below_alloc (Below.refl _ _) _))
                    refine value_ (w1 := W.alloc (.cells #[.int .i64 y] 3)) (v := .slice (some ⟨W.heap.size, 0, none⟩) 1 1) (by rfl) rfl (by first | (go_simp; done) | (go_simp; rfl)) ?_
                    refine hK.out _ _ ⟨(blk_cell hm'.X 0).trans rfl, (blk_cell hm'.X 1).trans rfl, (blk_cell hm'.X 2).trans rfl⟩ (fun _ => ?_)
                    clear hK K
                    refine norm_ (a' := ?_) (by simp only [Act.put, List.setIfInBounds_toArray, List.set_cons_zero, List.set_cons_succ]; rfl) ?_
                    exact J111_1 (u1, u2, (.slice (some ⟨W.heap.size, 0, none⟩) 1 1), v1, v2, v3) _ ⟨hm', trivial, l2.below (below_alloc (Below.refl _ _) _), Lit1.new hN, Nat.le_trans hN (below_alloc (Below.refl W.heap.size W) _).size⟩
                refine join_ (σ := Value × Value × Value × Value × Value × Value) 12 #[true, true, true, true, true, true, true, true, true, true, true, true, true, true, true, false, false, true, true, true, true, true, true, false, false, false, false, false, false, false, false, false, false] (fun s => [(77, s.1), (91, s.2.2.1), (78, s.2.2.2.1)]) (fun s w' => (MK Try.prog okR (fun _ => False) base gx gm #[.slice (some ad) L.length cL, .slice AF F.length cF, .slice AS S.length cS] (s.2.2.2.1) (.slice AF F.length cF) (.slice AS S.length cS) (.slice none 0 0) w w' (L ++ [z]) (L ++ [z]) F S []) ∧ True ∧ True ∧ Lit1 N w' s.2.2.1 (.int .i64 y) ∧ N ≤ w'.heap.size) ?j101_1 (fun J101_1 => ?_)
                rotate_left
                simp only [putAll, Act.put, List.setIfInBounds_toArray, List.set_cons_zero, List.set_cons_succ] at J101_1
                rotate_left
                case j101_1 =>
                  clear hM hN
                  rintro ⟨u1, u2, u3, v1, v2, v3⟩ W ⟨hM, -, -, l3, hN⟩
                  dsimp only at hM l3
                  refine norm_ (a' := ?_) (by simp only [putAll, Act.put, List.setIfInBounds_toArray, List.set_cons_zero, List.set_cons_succ]; rfl) ?_
                  refine one_ (i := 15) (N := some 84) #[true, true, true, true, true, true, true, true, true, true, true, true, true, true, true, true, false, true, true, true, true, true, true, false, false, false, false, false, false, false, false, false, false] rfl rfl (by kernel_rfl) (by decide) (fun K hK => ?_)
                  have hm' := hM.below (show Below W.heap.size W (W.alloc (.cells #[.int .i64 x] 3)) from (below_alloc (Below.refl _ _) _))
                  refine value_ (w1 := W.alloc (.cells #[.int .i64 x] 3)) (v := .slice (some ⟨W.heap.size, 0, none⟩) 1 1) (by rfl) rfl (by first | (go_simp; done) | (go_simp; rfl)) ?_
                  refine hK.out _ _ ⟨(blk_cell hm'.X 0).trans rfl, (blk_cell hm'.X 1).trans rfl, (blk_cell hm'.X 2).trans rfl⟩ (fun _ => ?_)
                  clear hK K
                  refine norm_ (a' := ?_) (by simp only [Act.put, List.setIfInBounds_toArray, List.set_cons_zero, List.set_cons_succ]; rfl) ?_
                  exact J111_1 (u1, (.slice (some ⟨W.heap.size, 0, none⟩) 1 1), u3, v1, v2, v3) _ ⟨hm', trivial, Lit1.new hN, l3.below (below_alloc (Below.refl _ _) _), Nat.le_trans hN (below_alloc (Below.refl W.heap.size W) _).size⟩
                refine join_ (σ := Value × Value × Value × Value × Value × Value) 13 #[true, true, true, true, true, true, true, true, true, true, true, true, true, true, true, false, false, true, true, true, true, true, false, false, false, false, false, false, false, false, false, false, false] (fun s => [(77, s.1), (78, s.2.2.2.1)]) (fun s w' => (MK Try.prog okR (fun _ => False) base gx gm #[.slice (some ad) L.length cL, .slice AF F.length cF, .slice AS S.length cS] (s.2.2.2.1) (.slice AF F.length cF) (.slice AS S.length cS) (.slice none 0 0) w w' (L ++ [z]) (L ++ [z]) F S []) ∧ True ∧ True ∧ True ∧ N ≤ w'.heap.size) ?j100_1 (fun J100_1 => ?_)
                rotate_left
                simp only [putAll, Act.put, List.setIfInBounds_toArray, List.set_cons_zero, List.set_cons_succ] at J100_1
                rotate_left
                case j100_1 =>
                  clear hM hN
                  rintro ⟨u1, u2, u3, v1, v2, v3⟩ W ⟨hM, -, -, -, hN⟩
                  dsimp only at hM
                  refine norm_ (a' := ?_) (by simp only [putAll, Act.put, List.setIfInBounds_toArray, List.set_cons_zero, List.set_cons_succ]; rfl) ?_
                  refine two_ (i := 15) (Ni := some 84) (j := 22) (Nj := some 91) #[true, true, true, true, true, true, true, true, true, true, true, true, true, true, true, true, false, true, true, true, true, true, false, false, false, false, false, false, false, false, false, false, false] #[true, true, true, true, true, true, true, true, true, true, true, true, true, true, true, false, false, true, true, true, true, true, true, false, false, false, false, false, false, false, false, false, false] rfl rfl rfl rfl (by kernel_rfl) (by decide) (by decide) (fun K hK => ?_) (fun K hK => ?_)
                  · have hm' := hM.below (show Below W.heap.size W (W.alloc (.cells #[.int .i64 x] 3)) from (below_alloc (Below.refl _ _) _))
                    refine value_ (w1 := W.alloc (.cells #[.int .i64 x] 3)) (v := .slice (some ⟨W.heap.size, 0, none⟩) 1 1) (by rfl) rfl (by first | (go_simp; done) | (go_simp; rfl)) ?_
                    refine hK.out _ _ ⟨(blk_cell hm'.X 0).trans rfl, (blk_cell hm'.X 1).trans rfl, (blk_cell hm'.X 2).trans rfl⟩ (fun _ => ?_)
                    clear hK K
                    refine norm_ (a' := ?_) (by simp only [Act.put, List.setIfInBounds_toArray, List.set_cons_zero, List.set_cons_succ]; rfl) ?_
                    exact J110_1 (u1, (.slice (some ⟨W.heap.size, 0, none⟩) 1 1), u3, v1, v2, v3) _ ⟨hm', trivial, Lit1.new hN, trivial, Nat.le_trans hN (below_alloc (Below.refl W.heap.size W) _).size⟩
                  · have hm' := hM.below (show Below W.heap.size W (W.alloc (.cells #[.int .i64 y] 3)) from (below_alloc (Below.refl _ _) _))
                    refine value_ (w1 := W.alloc (.cells #[.int .i64 y] 3)) (v := .slice (some ⟨W.heap.size, 0, none⟩) 1 1) (by rfl) rfl (by first | (go_simp; done) | (go_simp; rfl)) ?_
                    refine hK.out _ _ ⟨(blk_cell hm'.X 0).trans rfl, (blk_cell hm'.X 1).trans rfl, (blk_cell hm'.X 2).trans rfl⟩ (fun _ => ?_)
                    clear hK K
                    refine norm_ (a' := ?_) (by simp only [Act.put, List.setIfInBounds_toArray, List.set_cons_zero, List.set_cons_succ]; rfl) ?_
                    exact J101_1 (u1, u2, (.slice (some ⟨W.heap.size, 0, none⟩) 1 1), v1, v2, v3) _ ⟨hm', trivial, trivial, Lit1.new hN, Nat.le_trans hN (below_alloc (Below.refl W.heap.size W) _).size⟩
                refine join_ (σ := Value × Value × Value × Value × Value × Value) 12 #[true, true, true, true, true, true, true, true, true, false, true, true, true, true, true, true, false, true, true, true, true, true, true, false, false, false, false, false, false, false, false, false, false] (fun s => [(77, s.1), (84, s.2.1), (91, s.2.2.1)]) (fun s w' => (MK Try.prog okR (fun k => some k = (Value.slice An z.length cn).ownBlock) base gx gm #[.slice (some ad) L.length cL, .slice AF F.length cF, .slice AS S.length cS] (.slice (some ad) L.length cL) (.slice AF F.length cF) (.slice AS S.length cS) (.slice An z.length cn) w w' (L ++ [z]) L F S z) ∧ Lit1 N w' s.1 (.slice An z.length cn) ∧ Lit1 N w' s.2.1 (.int .i64 x) ∧ Lit1 N w' s.2.2.1 (.int .i64 y) ∧ N ≤ w'.heap.size) ?j111_0 (fun J111_0 => ?_)
                rotate_left
                simp only [putAll, Act.put, List.setIfInBounds_toArray, List.set_cons_zero, List.set_cons_succ] at J111_0
                rotate_left
                case j111_0 =>
                  clear hM hN
                  rintro ⟨u1, u2, u3, v1, v2, v3⟩ W ⟨hM, l1, l2, l3, hN⟩
                  dsimp only at hM l1 l2 l3
                  refine norm_ (a' := ?_) (by simp only [putAll, Act.put, List.setIfInBounds_toArray, List.set_cons_zero, List.set_cons_succ]; rfl) ?_
                  refine one_ (i := 9) (N := some 78) #[true, true, true, true, true, true, true, true, true, true, true, true, true, true, true, true, false, true, true, true, true, true, true, false, false, false, false, false, false, false, false, false, false] rfl rfl (by kernel_rfl) (by decide) (fun K hK => ?_)
                  refine MK.appL hM l1 (by have := HLN.out; omega) (by rfl) (.tmp 75) (.tmp 77) (by rfl) Try.underlying51 (by kernel_rfl) (by rfl) (by rfl) (fun v1' w1 hm' hg => ?_)
                  refine hK.out _ _ ⟨(blk_cell hm'.X 0).trans rfl, (blk_cell hm'.X 1).trans rfl, (blk_cell hm'.X 2).trans rfl⟩ (fun _ => ?_)
                  clear hK K
                  refine norm_ (a' := ?_) (by simp only [Act.put, List.setIfInBounds_toArray, List.set_cons_zero, List.set_cons_succ]; rfl) ?_
                  exact J111_1 (u1, u2, u3, v1', v2, v3) _ ⟨hm', trivial, l2.grown hg HT1.out, l3.grown hg HT1.out, Nat.le_trans hN hg.size⟩
                refine join_ (σ := Value × Value × Value × Value × Value × Value) 13 #[true, true, true, true, true, true, true, true, true, false, true, true, true, true, true, true, false, true, true, true, true, true, false, false, false, false, false, false, false, false, false, false, false] (fun s => [(77, s.1), (84, s.2.1)]) (fun s w' => (MK Try.prog okR (fun k => some k = (Value.slice An z.length cn).ownBlock) base gx gm #[.slice (some ad) L.length cL, .slice AF F.length cF, .slice AS S.length cS] (.slice (some ad) L.length cL) (.slice AF F.length cF) (.slice AS S.length cS) (.slice An z.length cn) w w' (L ++ [z]) L F S z) ∧ Lit1 N w' s.1 (.slice An z.length cn) ∧ Lit1 N w' s.2.1 (.int .i64 x) ∧ True ∧ N ≤ w'.heap.size) ?j110_0 (fun J110_0 => ?_)
                rotate_left
                simp only [putAll, Act.put, List.setIfInBounds_toArray, List.set_cons_zero, List.set_cons_succ] at J110_0
                rotate_left
                case j110_0 =>
                  clear hM hN
                  rintro ⟨u1, u2, u3, v1, v2, v3⟩ W ⟨hM, l1, l2, -, hN⟩
                  dsimp only at hM l1 l2
                  refine norm_ (a' := ?_) (by simp only [putAll, Act.put, List.setIfInBounds_toArray, List.set_cons_zero, List.set_cons_succ]; rfl) ?_
                  refine two_ (i := 9) (Ni := some 78) (j := 22) (Nj := some 91) #[true, true, true, true, true, true, true, true, true, true, true, true, true, true, true, true, false, true, true, true, true, true, false, false, false, false, false, false, false, false, false, false, false] #[true, true, true, true, true, true, true, true, true, false, true, true, true, true, true, true, false, true, true, true, true, true, true, false, false, false, false, false, false, false, false, false, false] rfl rfl rfl rfl (by kernel_rfl) (by decide) (by decide) (fun K hK => ?_) (fun K hK => ?_)
                  · refine MK.appL hM l1 (by have := HLN.out; omega) (by rfl) (.tmp 75) (.tmp 77) (by rfl) Try.underlying51 (by kernel_rfl) (by rfl) (by rfl) (fun v1' w1 hm' hg => ?_)
                    refine hK.out _ _ ⟨(blk_cell hm'.X 0).trans rfl, (blk_cell hm'.X 1).trans rfl, (blk_cell hm'.X 2).trans rfl⟩ (fun _ => ?_)
                    clear hK K
                    refine norm_ (a' := ?_) (by simp only [Act.put, List.setIfInBounds_toArray, List.set_cons_zero, List.set_cons_succ]; rfl) ?_
                    exact J110_1 (u1, u2, u3, v1', v2, v3) _ ⟨hm', trivial, l2.grown hg HT1.out, trivial, Nat.le_trans hN hg.size⟩
                  · have hm' := hM.below (show Below W.heap.size W (W.alloc (.cells #[.int .i64 y] 3)) from (below_alloc (Below.refl _ _) _))
                    refine value_ (w1 := W.alloc (.cells #[.int .i64 y] 3)) (v := .slice (some ⟨W.heap.size, 0, none⟩) 1 1) (by rfl) rfl (by first | (go_simp; done) | (go_simp; rfl)) ?_
                    refine hK.out _ _ ⟨(blk_cell hm'.X 0).trans rfl, (blk_cell hm'.X 1).trans rfl, (blk_cell hm'.X 2).trans rfl⟩ (fun _ => ?_)
                    clear hK K
                    refine norm_ (a' := ?_) (by simp only [Act.put, List.setIfInBounds_toArray, List.set_cons_zero, List.set_cons_succ]; rfl) ?_
                    exact J111_0 (u1, u2, (.slice (some ⟨W.heap.size, 0, none⟩) 1 1), v1, v2, v3) _ ⟨hm', l1.below (below_alloc (Below.refl _ _) _), l2.below (below_alloc (Below.refl _ _) _), Lit1.new hN, Nat.le_trans hN (below_alloc (Below.refl W.heap.size W) _).size⟩
                refine join_ (σ := Value × Value × Value × Value × Value × Value) 13 #[true, true, true, true, true, true, true, true, true, false, true, true, true, true, true, false, false, true, true, true, true, true, true, false, false, false, false, false, false, false, false, false, false] (fun s => [(77, s.1), (91, s.2.2.1)]) (fun s w' => (MK Try.prog okR (fun k => some k = (Value.slice An z.length cn).ownBlock) base gx gm #[.slice (some ad) L.length cL, .slice AF F.length cF, .slice AS S.length cS] (.slice (some ad) L.length cL) (.slice AF F.length cF) (.slice AS S.length cS) (.slice An z.length cn) w w' (L ++ [z]) L F S z) ∧ Lit1 N w' s.1 (.slice An z.length cn) ∧ True ∧ Lit1 N w' s.2.2.1 (.int .i64 y) ∧ N ≤ w'.heap.size) ?j101_0 (fun J101_0 => ?_)
                rotate_left
                simp only [putAll, Act.put, List.setIfInBounds_toArray, List.set_cons_zero, List.set_cons_succ] at J101_0
                rotate_left
                case j101_0 =>
                  clear hM hN
                  rintro ⟨u1, u2, u3, v1, v2, v3⟩ W ⟨hM, l1, -, l3, hN⟩
                  dsimp only at hM l1 l3
                  refine norm_ (a' := ?_) (by simp only [putAll, Act.put, List.setIfInBounds_toArray, List.set_cons_zero, List.set_cons_succ]; rfl) ?_
                  refine two_ (i := 9) (Ni := some 78) (j := 15) (Nj := some 84) #[true, true, true, true, true, true, true, true, true, true, true, true, true, true, true, false, false, true, true, true, true, true, true, false, false, false, false, false, false, false, false, false, false] #[true, true, true, true, true, true, true, true, true, false, true, true, true, true, true, true, false, true, true, true, true, true, true, false, false, false, false, false, false, false, false, false, false] rfl rfl rfl rfl (by kernel_rfl) (by decide) (by decide) (fun K hK => ?_) (fun K hK => ?_)
                  · refine MK.appL hM l1 (by have := HLN.out; omega) (by rfl) (.tmp 75) (.tmp 77) (by rfl) Try.underlying51 (by kernel_rfl) (by rfl) (by rfl) (fun v1' w1 hm' hg => ?_)
                    refine hK.out _ _ ⟨(blk_cell hm'.X 0).trans rfl, (blk_cell hm'.X 1).trans rfl, (blk_cell hm'.X 2).trans rfl⟩ (fun _ => ?_)
                    clear hK K
                    refine norm_ (a' := ?_) (by simp only [Act.put, List.setIfInBounds_toArray, List.set_cons_zero, List.set_cons_succ]; rfl) ?_
                    exact J101_1 (u1, u2, u3, v1', v2, v3) _ ⟨hm', trivial, trivial, l3.grown hg HT1.out, Nat.le_trans hN hg.size⟩
                  · have hm' := hM.below (show Below W.heap.size W (W.alloc (.cells #[.int .i64 x] 3)) from (below_alloc (Below.refl _ _) _))
                    refine value_ (w1 := W.alloc (.cells #[.int .i64 x] 3)) (v := .slice (some ⟨W.heap.size, 0, none⟩) 1 1) (by rfl) rfl (by first | (go_simp; done) | (go_simp; rfl)) ?_
                    refine hK.out _ _ ⟨(blk_cell hm'.X 0).trans rfl, (blk_cell hm'.X 1).trans rfl, (blk_cell hm'.X 2).trans rfl⟩ (fun _ => ?_)
                    clear hK K
                    refine norm_ (a' := ?_) (by simp only [Act.put, List.setIfInBounds_toArray, List.set_cons_zero, List.set_cons_succ]; rfl) ?_
                    exact J111_0 (u1, (.slice (some ⟨W.heap.size, 0, none⟩) 1 1), u3, v1, v2, v3) _ ⟨hm', l1.below (below_alloc (Below.refl _ _) _), Lit1.new hN, l3.below (below_alloc (Below.refl _ _) _), Nat.le_trans hN (below_alloc (Below.refl W.heap.size W) _).size⟩
                refine join_ (σ := Value × Value × Value × Value × Value × Value) 13 #[true, true, true, true, true, true, true, true, false, false, true, true, true, true, true, true, false, true, true, true, true, true, true, false, false, false, false, false, false, false, false, false, false] (fun s => [(84, s.2.1), (91, s.2.2.1)]) (fun s w' => (MK Try.prog okR (fun k => some k = (Value.slice An z.length cn).ownBlock) base gx gm #[.slice (some ad) L.length cL, .slice AF F.length cF, .slice AS S.length cS] (.slice (some ad) L.length cL) (.slice AF F.length cF) (.slice AS S.length cS) (.slice An z.length cn) w w' (L ++ [z]) L F S z) ∧ True ∧ Lit1 N w' s.2.1 (.int .i64 x) ∧ Lit1 N w' s.2.2.1 (.int .i64 y) ∧ N ≤ w'.heap.size) ?j011_0 (fun J011_0 => ?_)
                rotate_left
                simp only [putAll, Act.put, List.setIfInBounds_toArray, List.set_cons_zero, List.set_cons_succ] at J011_0
                rotate_left
                case j011_0 =>
                  clear hM hN
                  rintro ⟨u1, u2, u3, v1, v2, v3⟩ W ⟨hM, -, l2, l3, hN⟩
                  dsimp only at hM l2 l3
                  refine norm_ (a' := ?_) (by simp only [putAll, Act.put, List.setIfInBounds_toArray, List.set_cons_zero, List.set_cons_succ]; rfl) ?_
                  refine one_ (i := 8) (N := some 77) #[true, true, true, true, true, true, true, true, true, false, true, true, true, true, true, true, false, true, true, true, true, true, true, false, false, false, false, false, false, false, false, false, false] rfl rfl (by kernel_rfl) (by decide) (fun K hK => ?_)
                  have hm' := hM.below (show Below W.heap.size W (W.alloc (.cells #[.slice An z.length cn] 33)) from (below_alloc (Below.refl _ _) _))
                  refine value_ (w1 := W.alloc (.cells #[.slice An z.length cn] 33)) (v := .slice (some ⟨W.heap.size, 0, none⟩) 1 1) (by rfl) rfl (by first | (go_simp; done) | (go_simp; rfl)) ?_
                  refine hK.out _ _ ⟨(blk_cell hm'.X 0).trans rfl, (blk_cell hm'.X 1).trans rfl, (blk_cell hm'.X 2).trans rfl⟩ (fun _ => ?_)
                  clear hK K
                  refine norm_ (a' := ?_) (by simp only [Act.put, List.setIfInBounds_toArray, List.set_cons_zero, List.set_cons_succ]; rfl) ?_
                  exact J111_0 ((.slice (some ⟨W.heap.size, 0, none⟩) 1 1), u2, u3, v1, v2, v3) _ ⟨hm', Lit1.new hN, l2.below (below_alloc (Below.refl _ _) _), l3.below (below_alloc (Below.refl _ _) _), Nat.le_trans hN (below_alloc (Below.refl W.heap.size W) _).size⟩
                refine join_ (σ := Value × Value × Value × Value × Value × Value) 14 #[true, true, true, true, true, true, true, true, true, false, true, true, true, true, true, false, false, true, true, true, true, true, false, false, false, false, false, false, false, false, false, false, false] (fun s => [(77, s.1)]) (fun s w' => (MK Try.prog okR (fun k => some k = (Value.slice An z.length cn).ownBlock) base gx gm #[.slice (some ad) L.length cL, .slice AF F.length cF, .slice AS S.length cS] (.slice (some ad) L.length cL) (.slice AF F.length cF) (.slice AS S.length cS) (.slice An z.length cn) w w' (L ++ [z]) L F S z) ∧ Lit1 N w' s.1 (.slice An z.length cn) ∧ True ∧ True ∧ N ≤ w'.heap.size) ?j100_0 (fun J100_0 => ?_)
                rotate_left
                simp only [putAll, Act.put, List.setIfInBounds_toArray, List.set_cons_zero, List.set_cons_succ] at J100_0
                rotate_left
                case j100_0 =>
                  clear hM hN
                  rintro ⟨u1, u2, u3, v1, v2, v3⟩ W ⟨hM, l1, -, -, hN⟩
                  dsimp only at hM l1
                  refine norm_ (a' := ?_) (by simp only [putAll, Act.put, List.setIfInBounds_toArray, List.set_cons_zero, List.set_cons_succ]; rfl) ?_
                  refine three_ (i := 9) (Ni := some 78) (j := 15) (Nj := some 84) (k := 22) (Nk := some 91) #[true, true, true, true, true, true, true, true, true, true, true, true, true, true, true, false, false, true, true, true, true, true, false, false, false, false, false, false, false, false, false, false, false] #[true, true, true, true, true, true, true, true, true, false, true, true, true, true, true, true, false, true, true, true, true, true, false, false, false, false, false, false, false, false, false, false, false] #[true, true, true, true, true, true, true, true, true, false, true, true, true, true, true, false, false, true, true, true, true, true, true, false, false, false, false, false, false, false, false, false, false] rfl rfl rfl rfl rfl rfl (by kernel_rfl) (by decide) (by decide) (by decide) (fun K hK => ?_) (fun K hK => ?_) (fun K hK => ?_)
                  · refine MK.appL hM l1 (by have := HLN.out; omega) (by rfl) (.tmp 75) (.tmp 77) (by rfl) Try.underlying51 (by kernel_rfl) (by rfl) (by rfl) (fun v1' w1 hm' hg => ?_)
                    refine hK.out _ _ ⟨(blk_cell hm'.X 0).trans rfl, (blk_cell hm'.X 1).trans rfl, (blk_cell hm'.X 2).trans rfl⟩ (fun _ => ?_)
                    clear hK K
                    refine norm_ (a' := ?_) (by simp only [Act.put, List.setIfInBounds_toArray, List.set_cons_zero, List.set_cons_succ]; rfl) ?_
                    exact J100_1 (u1, u2, u3, v1', v2, v3) _ ⟨hm', trivial, trivial, trivial, Nat.le_trans hN hg.size⟩
                  · have hm' := hM.below (show Below W.heap.size W (W.alloc (.cells #[.int .i64 x] 3)) from (below_alloc (Below.refl _ _) _))
                    refine value_ (w1 := W.alloc (.cells #[.int .i64 x] 3)) (v := .slice (some ⟨W.heap.size, 0, none⟩) 1 1) (by rfl) rfl (by first | (go_simp; done) | (go_simp; rfl)) ?_
                    refine hK.out _ _ ⟨(blk_cell hm'.X 0).trans rfl, (blk_cell hm'.X 1).trans rfl, (blk_cell hm'.X 2).trans rfl⟩ (fun _ => ?_)
                    clear hK K
                    refine norm_ (a' := ?_) (by simp only [Act.put, List.setIfInBounds_toArray, List.set_cons_zero, List.set_cons_succ]; rfl) ?_
                    exact J110_0 (u1, (.slice (some ⟨W.heap.size, 0, none⟩) 1 1), u3, v1, v2, v3) _ ⟨hm', l1.below (below_alloc (Below.refl _ _) _), Lit1.new hN, trivial, Nat.le_trans hN (below_alloc (Below.refl W.heap.size W) _).size⟩
                  · have hm' := hM.below (show Below W.heap.size W (W.alloc (.cells #[.int .i64 y] 3)) from (below_alloc (Below.refl _ _) _))
                    refine value_ (w1 := W.alloc (.cells #[.int .i64 y] 3)) (v := .slice (some ⟨W.heap.size, 0, none⟩) 1 1) (by rfl) rfl (by first | (go_simp; done) | (go_simp; rfl)) ?_
                    refine hK.out _ _ ⟨(blk_cell hm'.X 0).trans rfl, (blk_cell hm'.X 1).trans rfl, (blk_cell hm'.X 2).trans rfl⟩ (fun _ => ?_)
                    clear hK K
                    refine norm_ (a' := ?_) (by simp only [Act.put, List.setIfInBounds_toArray, List.set_cons_zero, List.set_cons_succ]; rfl) ?_
                    exact J101_0 (u1, u2, (.slice (some ⟨W.heap.size, 0, none⟩) 1 1), v1, v2, v3) _ ⟨hm', l1.below (below_alloc (Below.refl _ _) _), trivial, Lit1.new hN, Nat.le_trans hN (below_alloc (Below.refl W.heap.size W) _).size⟩
                refine join_ (σ := Value × Value × Value × Value × Value × Value) 14 #[true, true, true, true, true, true, true, true, false, false, true, true, true, true, true, true, false, true, true, true, true, true, false, false, false, false, false, false, false, false, false, false, false] (fun s => [(84, s.2.1)]) (fun s w' => (MK Try.prog okR (fun k => some k = (Value.slice An z.length cn).ownBlock) base gx gm #[.slice (some ad) L.length cL, .slice AF F.length cF, .slice AS S.length cS] (.slice (some ad) L.length cL) (.slice AF F.length cF) (.slice AS S.length cS) (.slice An z.length cn) w w' (L ++ [z]) L F S z) ∧ True ∧ Lit1 N w' s.2.1 (.int .i64 x) ∧ True ∧ N ≤ w'.heap.size) ?j010_0 (fun J010_0 => ?_)
                rotate_left
                simp only [putAll, Act.put, List.setIfInBounds_toArray, List.set_cons_zero, List.set_cons_succ] at J010_0
                rotate_left
                case j010_0 =>
                  clear hM hN
                  rintro ⟨u1, u2, u3, v1, v2, v3⟩ W ⟨hM, -, l2, -, hN⟩
                  dsimp only at hM l2
                  refine norm_ (a' := ?_) (by simp only [putAll, Act.put, List.setIfInBounds_toArray, List.set_cons_zero, List.set_cons_succ]; rfl) ?_
                  refine two_ (i := 8) (Ni := some 77) (j := 22) (Nj := some 91) #[true, true, true, true, true, true, true, true, true, false, true, true, true, true, true, true, false, true, true, true, true, true, false, false, false, false, false, false, false, false, false, false, false] #[true, true, true, true, true, true, true, true, false, false, true, true, true, true, true, true, false, true, true, true, true, true, true, false, false, false, false, false, false, false, false, false, false] rfl rfl rfl rfl (by kernel_rfl) (by decide) (by decide) (fun K hK => ?_) (fun K hK => ?_)
                  · have hm' := hM.below (show Below W.heap.size W (W.alloc (.cells #[.slice An z.length cn] 33)) from (below_alloc (Below.refl _ _) _))
                    refine value_ (w1 := W.alloc (.cells #[.slice An z.length cn] 33)) (v := .slice (some ⟨W.heap.size, 0, none⟩) 1 1) (by rfl) rfl (by first | (go_simp; done) | (go_simp; rfl)) ?_
                    refine hK.out _ _ ⟨(blk_cell hm'.X 0).trans rfl, (blk_cell hm'.X 1).trans rfl, (blk_cell hm'.X 2).trans rfl⟩ (fun _ => ?_)
                    clear hK K
                    refine norm_ (a' := ?_) (by simp only [Act.put, List.setIfInBounds_toArray, List.set_cons_zero, List.set_cons_succ]; rfl) ?_
                    exact J110_0 ((.slice (some ⟨W.heap.size, 0, none⟩) 1 1), u2, u3, v1, v2, v3) _ ⟨hm', Lit1.new hN, l2.below (below_alloc (Below.refl _ _) _), trivial, Nat.le_trans hN (below_alloc (Below.refl W.heap.size W) _).size⟩
                  · have hm' := hM.below (show Below W.heap.size W (W.alloc (.cells #[.int .i64 y] 3)) from (below_alloc (Below.refl _ _) _))
                    refine value_ (w1 := W.alloc (.cells #[.int .i64 y] 3)) (v := .slice (some ⟨W.heap.size, 0, none⟩) 1 1) (by rfl) rfl (by first | (go_simp; done) | (go_simp; rfl)) ?_
                    refine hK.out _ _ ⟨(blk_cell hm'.X 0).trans rfl, (blk_cell hm'.X 1).trans rfl, (blk_cell hm'.X 2).trans rfl⟩ (fun _ => ?_)
                    clear hK K
                    refine norm_ (a' := ?_) (by simp only [Act.put, List.setIfInBounds_toArray, List.set_cons_zero, List.set_cons_succ]; rfl) ?_
                    exact J011_0 (u1, u2, (.slice (some ⟨W.heap.size, 0, none⟩) 1 1), v1, v2, v3) _ ⟨hm', trivial, l2.below (below_alloc (Below.refl _ _) _), Lit1.new hN, Nat.le_trans hN (below_alloc (Below.refl W.heap.size W) _).size⟩
                refine join_ (σ := Value × Value × Value × Value × Value × Value) 14 #[true, true, true, true, true, true, true, true, false, false, true, true, true, true, true, false, false, true, true, true, true, true, true, false, false, false, false, false, false, false, false, false, false] (fun s => [(91, s.2.2.1)]) (fun s w' => (MK Try.prog okR (fun k => some k = (Value.slice An z.length cn).ownBlock) base gx gm #[.slice (some ad) L.length cL, .slice AF F.length cF, .slice AS S.length cS] (.slice (some ad) L.length cL) (.slice AF F.length cF) (.slice AS S.length cS) (.slice An z.length cn) w w' (L ++ [z]) L F S z) ∧ True ∧ True ∧ Lit1 N w' s.2.2.1 (.int .i64 y) ∧ N ≤ w'.heap.size) ?j001_0 (fun J001_0 => ?_)
                rotate_left
                simp only [putAll, Act.put, List.setIfInBounds_toArray, List.set_cons_zero, List.set_cons_succ] at J001_0
                rotate_left
                case j001_0 =>
                  clear hM hN
                  rintro ⟨u1, u2, u3, v1, v2, v3⟩ W ⟨hM, -, -, l3, hN⟩
                  dsimp only at hM l3
                  refine norm_ (a' := ?_) (by simp only [putAll, Act.put, List.setIfInBounds_toArray, List.set_cons_zero, List.set_cons_succ]; rfl) ?_
                  refine two_ (i := 8) (Ni := some 77) (j := 15) (Nj := some 84) #[true, true, true, true, true, true, true, true, true, false, true, true, true, true, true, false, false, true, true, true, true, true, true, false, false, false, false, false, false, false, false, false, false] #[true, true, true, true, true, true, true, true, false, false, true, true, true, true, true, true, false, true, true, true, true, true, true, false, false, false, false, false, false, false, false, false, false] rfl rfl rfl rfl (by kernel_rfl) (by decide) (by decide) (fun K hK => ?_) (fun K hK => ?_)
                  · have hm' := hM.below (show Below W.heap.size W (W.alloc (.cells #[.slice An z.length cn] 33)) from (below_alloc (Below.refl _ _) _))
                    refine value_ (w1 := W.alloc (.cells #[.slice An z.length cn] 33)) (v := .slice (some ⟨W.heap.size, 0, none⟩) 1 1) (by rfl) rfl (by first | (go_simp; done) | (go_simp; rfl)) ?_
                    refine hK.out _ _ ⟨(blk_cell hm'.X 0).trans rfl, (blk_cell hm'.X 1).trans rfl, (blk_cell hm'.X 2).trans rfl⟩ (fun _ => ?_)
                    clear hK K
                    refine norm_ (a' := ?_) (by simp only [Act.put, List.setIfInBounds_toArray, List.set_cons_zero, List.set_cons_succ]; rfl) ?_
                    exact J101_0 ((.slice (some ⟨W.heap.size, 0, none⟩) 1 1), u2, u3, v1, v2, v3) _ ⟨hm', Lit1.new hN, trivial, l3.below (below_alloc (Below.refl _ _) _), Nat.le_trans hN (below_alloc (Below.refl W.heap.size W) _).size⟩
                  · have hm' := hM.below (show Below W.heap.size W (W.alloc (.cells #[.int .i64 x] 3)) from (below_alloc (Below.refl _ _) _))
                    refine value_ (w1 := W.alloc (.cells #[.int .i64 x] 3)) (v := .slice (some ⟨W.heap.size, 0, none⟩) 1 1) (by rfl) rfl (by first | (go_simp; done) | (go_simp; rfl)) ?_
                    refine hK.out _ _ ⟨(blk_cell hm'.X 0).trans rfl, (blk_cell hm'.X 1).trans rfl, (blk_cell hm'.X 2).trans rfl⟩ (fun _ => ?_)
                    clear hK K
                    refine norm_ (a' := ?_) (by simp only [Act.put, List.setIfInBounds_toArray, List.set_cons_zero, List.set_cons_succ]; rfl) ?_
                    exact J011_0 (u1, (.slice (some ⟨W.heap.size, 0, none⟩) 1 1), u3, v1, v2, v3) _ ⟨hm', trivial, Lit1.new hN, l3.below (below_alloc (Below.refl _ _) _), Nat.le_trans hN (below_alloc (Below.refl W.heap.size W) _).size⟩
                obtain ⟨u1, u2, u3, v1, v2, v3⟩ : Value × Value × Value × Value × Value × Value := (undef, undef, undef, undef, undef, undef)
                refine three_ (i := 8) (Ni := some 77) (j := 15) (Nj := some 84) (k := 22) (Nk := some 91) #[true, true, true, true, true, true, true, true, true, false, true, true, true, true, true, false, false, true, true, true, true, true, false, false, false, false, false, false, false, false, false, false, false] #[true, true, true, true, true, true, true, true, false, false, true, true, true, true, true, true, false, true, true, true, true, true, false, false, false, false, false, false, false, false, false, false, false] #[true, true, true, true, true, true, true, true, false, false, true, true, true, true, true, false, false, true, true, true, true, true, true, false, false, false, false, false, false, false, false, false, false] rfl rfl rfl rfl rfl rfl (by kernel_rfl) (by decide) (by decide) (by decide) (fun K hK => ?_) (fun K hK => ?_) (fun K hK => ?_)
                · have hm' := hM.below (show Below W.heap.size W (W.alloc (.cells #[.slice An z.length cn] 33)) from (below_alloc (Below.refl _ _) _))
                  refine value_ (w1 := W.alloc (.cells #[.slice An z.length cn] 33)) (v := .slice (some ⟨W.heap.size, 0, none⟩) 1 1) (by rfl) rfl (by first | (go_simp; done) | (go_simp; rfl)) ?_
                  refine hK.out _ _ ⟨(blk_cell hm'.X 0).trans rfl, (blk_cell hm'.X 1).trans rfl, (blk_cell hm'.X 2).trans rfl⟩ (fun _ => ?_)
                  clear hK K
                  refine norm_ (a' := ?_) (by simp only [Act.put, List.setIfInBounds_toArray, List.set_cons_zero, List.set_cons_succ]; rfl) ?_
                  exact J100_0 ((.slice (some ⟨W.heap.size, 0, none⟩) 1 1), u2, u3, v1, v2, v3) _ ⟨hm', Lit1.new hN, trivial, trivial, Nat.le_trans hN (below_alloc (Below.refl W.heap.size W) _).size⟩
                · have hm' := hM.below (show Below W.heap.size W (W.alloc (.cells #[.int .i64 x] 3)) from (below_alloc (Below.refl _ _) _))
                  refine value_ (w1 := W.alloc (.cells #[.int .i64 x] 3)) (v := .slice (some ⟨W.heap.size, 0, none⟩) 1 1) (by rfl) rfl (by first | (go_simp; done) | (go_simp; rfl)) ?_
                  refine hK.out _ _ ⟨(blk_cell hm'.X 0).trans rfl, (blk_cell hm'.X 1).trans rfl, (blk_cell hm'.X 2).trans rfl⟩ (fun _ => ?_)
                  clear hK K
                  refine norm_ (a' := ?_) (by simp only [Act.put, List.setIfInBounds_toArray, List.set_cons_zero, List.set_cons_succ]; rfl) ?_
                  exact J010_0 (u1, (.slice (some ⟨W.heap.size, 0, none⟩) 1 1), u3, v1, v2, v3) _ ⟨hm', trivial, Lit1.new hN, trivial, Nat.le_trans hN (below_alloc (Below.refl W.heap.size W) _).size⟩
                · have hm' := hM.below (show Below W.heap.size W (W.alloc (.cells #[.int .i64 y] 3)) from (below_alloc (Below.refl _ _) _))
                  refine value_ (w1 := W.alloc (.cells #[.int .i64 y] 3)) (v := .slice (some ⟨W.heap.size, 0, none⟩) 1 1) (by rfl) rfl (by first | (go_simp; done) | (go_simp; rfl)) ?_
                  refine hK.out _ _ ⟨(blk_cell hm'.X 0).trans rfl, (blk_cell hm'.X 1).trans rfl, (blk_cell hm'.X 2).trans rfl⟩ (fun _ => ?_)
                  clear hK K
                  refine norm_ (a' := ?_) (by simp only [Act.put, List.setIfInBounds_toArray, List.set_cons_zero, List.set_cons_succ]; rfl) ?_
                  exact J001_0 (u1, u2, (.slice (some ⟨W.heap.size, 0, none⟩) 1 1), v1, v2, v3) _ ⟨hm', trivial, trivial, Lit1.new hN, Nat.le_trans hN (below_alloc (Below.refl W.heap.size W) _).size⟩

/-! ### impl_single: function 71 -/
def impl_single.f (a0 : Int) (a1 : Int) : Option (List Int) := if 0 ≤ a0 then (if (a0 : Int).toNat ≤ 35184372088832 then ((some (List.replicate (a0 : Int).toNat 0 : List Int)).bind fun y223 => (if 0 ≤ a1 then (if a1 < (y223.length : Int) then (some (y223.set (a1 : Int).toNat 1)) else (none)) else (none))) else (none)) else (none)
set_option maxHeartbeats 8000000 in
set_option maxRecDepth 100000 in
theorem impl_single.calls (a0 : Int) (a1 : Int) (r : List Int) (w : World) (h : impl_single.f a0 a1 = some r) :
    Calls Try.prog 71 #[.int .i64 a0, .int .i64 a1] w fun e w' => ∃ v0_ : Value, e = .returned (v0_) ∧ Kd.R (Kd.int .i64) 3 w' w.heap.size (fun _ => True) v0_ r ∧ Below w.heap.size w w' := by
  have HB := Aside0.mk (Below.refl w.heap.size w)
  have H : (if 0 ≤ a0 then (if (a0 : Int).toNat ≤ 35184372088832 then ((some (List.replicate (a0 : Int).toNat 0 : List Int)).bind fun y223 => (if 0 ≤ a1 then (if a1 < (y223.length : Int) then (some (y223.set (a1 : Int).toNat 1)) else (none)) else (none))) else (none)) else (none)) = some r := h
  clear h
  by_cases c3 : 0 ≤ a0
  · rw [if_pos c3] at H
    have c3b0 := eq_true c3
    have c3b1 : decide (0 ≤ a0) = true := decide_eq_true c3
    clear c3
    by_cases c4 : (a0 : Int).toNat ≤ 35184372088832
    · rw [if_pos c4] at H
      have c4b0 := eq_true c4
      have c4b1 : decide ((a0 : Int).toNat ≤ 35184372088832) = true := decide_eq_true c4
      clear c4
      obtain ⟨y223, hy223⟩ : ∃ y_ : List Int, y_ = (List.replicate (a0 : Int).toNat 0) := ⟨_, rfl⟩
      replace H : (if 0 ≤ a1 then (if a1 < (y223.length : Int) then (some (y223.set (a1 : Int).toNat 1)) else (none)) else (none)) = some r := by first | (rw [hy223]; with_reducible exact H) | (have H2_ := (Option.bind_some _ _).symm.trans H; rw [hy223]; with_reducible exact H2_) | (have H2_ := (Option.bind_some _ _).symm.trans H; with_reducible exact H2_) | with_reducible exact H | (rw [hy223]; exact H) | exact H
      have Ny223 := Aside0.mk hy223
      clear hy223
      by_cases c5 : 0 ≤ a1
      · rw [if_pos c5] at H
        have c5b0 : decide (0 ≤ a1) = true := decide_eq_true c5
        clear c5
        by_cases c6 : a1 < (y223.length : Int)
        · rw [if_pos c6] at H
          have c6b0 : decide (a1 < (y223.length : Int)) = true := decide_eq_true c6
          clear c6
          obtain ⟨y226, hy226⟩ : ∃ y_ : List Int, y_ = (y223.set (a1 : Int).toNat 1) := ⟨_, rfl⟩
          replace H : (some y226) = some r := by first | (rw [hy226]; with_reducible exact H) | (have H2_ := (Option.bind_some _ _).symm.trans H; rw [hy226]; with_reducible exact H2_) | (have H2_ := (Option.bind_some _ _).symm.trans H; with_reducible exact H2_) | with_reducible exact H | (rw [hy226]; exact H) | exact H
          have Ny226 := Aside0.mk hy226
          clear hy226
          obtain rfl := Option.some.inj H
          go_enter Try.func71, Try.ntmps71
          go_wp2_with (first | ((with_reducible refine gate_dst (N := 7) rfl ?_); refine Kd.R_make (Kd.int .i64) _ 3 rfl (N := 7) rfl 33 _ _ rfl a0 rfl rfl Try.underlying33 (.int .i64 0) 8 info3 rfl (by decide) (by omega) 0 (ok := fun _ => True) (okp := fun _ => True) rfl (fun _ hk => hk) trivial (of_decide_eq_true (by first | (with_reducible assumption) | assumption)) (Nat.le_trans (Nat.mul_le_mul_right _ (of_decide_eq_true (by first | (with_reducible assumption) | assumption) : a0.toNat ≤ 35184372088832)) (by omega)) (Below.refl _ _) (Nat.le_refl _) ?_; intro v224 w8 ho9 hb hg_ hnew_; clear hg_ hnew_; (first | rw [← Ny223.out] at ho9 | (simp only [Int.reduceToNat] at ho9; rw [← Ny223.out] at ho9)); have n0_ := Aside0.mk (Kd.R_lower ho9 (below_size (by repeat (first | (with_reducible first | exact HB.out | apply below_alloc | apply pw_below_drewN | apply below_drew1) | exact HB.out)))); have n1_ := Aside0.mk (below_step (by repeat (first | (with_reducible first | exact HB.out | apply below_alloc | apply pw_below_drewN | apply below_drew1) | exact HB.out)) hb); clear HB; have HO225 := n0_; have HB := n1_; clear n0_ n1_; clear hb ho9; have p7 : 0 ≤ (a1 : Int) := of_decide_eq_true (by first | (with_reducible assumption) | assumption); have q7 : (a1 : Int) < ((y223.length : Int) : Int) := of_decide_eq_true (by first | (with_reducible assumption) | assumption); obtain ⟨go7, co7, eo7, gb7, gl7, cl7, HG7⟩ := Kd.R_form HO225.out (by omega); (first | cases eo7 | (injection eo7 with ea_ en_ ec_; (first | subst ea_ | (injection ea_ with ea_; subst ea_)); subst ec_; clear en_)); have GB7 := Aside0.mk gb7; have GG7 := Aside0.mk HG7; clear gb7 gl7 HG7; obtain ⟨hx7_0, hf7_0⟩ := Kd.R_celln 0 HO225.out (a1 : Int) p7 q7; replace p7 := eq_true p7; replace q7 := eq_true q7; obtain ⟨hy10_, hz10_⟩ := Kd.R_celln 0 HO225.out (a1 : Int) (of_decide_eq_true (by first | (with_reducible assumption) | assumption)) (of_decide_eq_true (by first | (with_reducible assumption) | assumption)); have HP10 := Kd.R_putg HO225.out (a1 : Int) 1) | ((with_reducible refine gate_store (t := 3) (p := 10) rfl ?_); refine store_event (t := 3) (p := 10) (v := ?vo_w11) (w1 := (w8.setCell ⟨go7, (a1 : Int).toNat, none⟩ (.int .i64 1))) ?hg ?ho ?hn ?hr ?_; (case ho => rfl); (case hg => rfl); (case hn => rfl); (case hr => first | (go_simp; done) | (go_simp; rfl)); intro w11 hw; have hg : w8.grownBy w11 (some go7) := (by rw [hw]; exact HP10.2); have hp_ : Kd.R (Kd.int .i64) 3 w11 w.heap.size (fun _ => True) (.slice (some ⟨go7, 0, none⟩) y223.length co7) y226 := (by rw [hw, Ny226.out]; exact HP10.1); clear HP10; have n0_ := Aside0.mk (hp_); have n1_ := Aside0.mk ((by rw [hw]; exact below_set (HB.out) GB7.out : Below w.heap.size w w11)); clear HO225; clear HB; have HO225 := n0_; have HB := n1_; clear n0_ n1_; clear hg hw hp_))
          go_ret
          exact ⟨_, by first | rfl | (simp [errW_none, errW_some] <;> rfl) | (simp [*, errW_none, errW_some] <;> rfl), by (with_reducible repeat (first | apply Kd.R_alloc | apply Kd.R_drewN | apply Kd.R_drew)); exact HO225.out, by repeat (first | (with_reducible first | exact HB.out | apply below_alloc | apply pw_below_drewN | apply below_drew1) | exact HB.out)⟩
        · rw [if_neg c6] at H
          exact absurd H (by simp)
      · rw [if_neg c5] at H
        exact absurd H (by simp)
    · rw [if_neg c4] at H
      exact absurd H (by simp)
  · rw [if_neg c3] at H
    exact absurd H (by simp)

end Go.Proofs.Ytnfafdlglhbijaa.PFnExactIsSound
