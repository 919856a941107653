/- How a row's arguments open as the print's kinds. No conditions. -/
import Derived.Deep.Slices
import Derived.Deep.Strs
import Derived.Lib.SmallJoins
import Derived.Test.YtnfafdlglhbijaaWWords
namespace Go.Proofs.Ytnfafdlglhbijaa.Open
open Go.ChangeShapes Go.WideShapes Go.RowKit Go.Proofs.YtnfafdlglhbijaaW.PrintWords

section
variable {H : Type} {enc : TypeId × Value → H} {P : Program} {w : World}

/-- What reads as data at type t is of the kind d, and each such value meets Q. -/
def Opens {H : Type} (enc : TypeId × Value → H) (P : Program) (w : World) (t : TypeId) {α : Type} (d : Kd α) (Q : α → Prop) : Prop :=
  ∀ (fuel : Nat) (cs : List Value) (x : DataW H × List MemPlace), DataW.trod enc P w 0 (fun _ => true) true fuel t cs = some x → ∃ a, d.K w a cs ∧ Q a

theorem opens_int {t : TypeId} {k : IntKind} (ht : P.underlying t = some (.int k)) : Opens enc P w t (Kd.int k) (fun n => (Lit.int k n).wf = true) := by
  intro fuel cs x h
  obtain ⟨n, rfl, _, hw⟩ := DataW.trod_int ht h
  exact ⟨n, rfl, hw⟩

theorem opens_bool {t : TypeId} (ht : P.underlying t = some .bool) : Opens enc P w t Kd.bool (fun _ => True) := by
  intro fuel cs x h
  obtain ⟨b, rfl, _⟩ := DataW.trod_bool ht h
  exact ⟨b, rfl, trivial⟩

theorem opens_string {t : TypeId} (ht : P.underlying t = some .string) : Opens enc P w t Kd.string (fun s => s.size ≤ 9223372036854775807) := by
  intro fuel cs x h
  obtain ⟨s, rfl, _, hs⟩ := DataW.trod_string ht h
  exact ⟨s, rfl, hs⟩

theorem opens_rows {e : TypeId} {α : Type} {d : Kd α} {Q : α → Prop} (a : Addr) (len m n : Nat) (D : Nat → DataW H) (Pl : Nat → List MemPlace) (hc : P.cellsOf e = d.sz) (he : Opens enc P w e d Q) (hlm : len ≤ m)
    (hi : ∀ i, i < m → ∃ cs', w.cells? 0 (a.add (i * P.cellsOf e)) (P.cellsOf e) = some cs' ∧ DataW.trod enc P w 0 (fun _ => true) true n e cs' = some (D i, Pl i)) :
    ∃ l : List α, l.length = len ∧ (∀ j p, l[j]? = some p → ∃ c, c.length = d.sz ∧ d.K w p c ∧ ∀ i u, c[i]? = some u → w.cell? (a.add (j * d.sz + i)) = some u) ∧ ∀ x ∈ l, Q x := by
  induction len with
  | zero => exact ⟨[], rfl, fun j p h => by simp at h, fun x h => by simp at h⟩
  | succ len ih =>
    obtain ⟨l, hl, hcell, hq⟩ := ih (by omega)
    obtain ⟨cs', hcs, htr⟩ := hi len (by omega)
    obtain ⟨p, hK, hQ⟩ := he n cs' _ htr
    obtain ⟨_, hlen, hat⟩ := World.cells?_some hcs
    rw [hc] at hat hlen
    refine ⟨l ++ [p], by simp [hl], ?_, ?_⟩
    · intro j q hj
      rcases Nat.lt_or_ge j l.length with hlt | hge
      · rw [List.getElem?_append_left hlt] at hj; exact hcell j q hj
      · have hj' : j = l.length := by
          have := (List.getElem?_eq_some_iff.1 hj).1
          rw [List.length_append, List.length_singleton] at this
          omega
        subst hj'
        have hq' : p = q := by simpa using hj
        subst hq'
        refine ⟨cs', hlen, hK, fun i u hu => ?_⟩
        have hlt : i < d.sz := by rw [← hlen]; exact (List.getElem?_eq_some_iff.1 hu).1
        have := hat i hlt
        rw [Deep.add_add] at this
        rw [hl, this, hu]
    · intro x hx
      rcases List.mem_append.1 hx with hx | hx
      · exact hq x hx
      · rw [List.mem_singleton.1 hx]; exact hQ

theorem opens_slice {t e : TypeId} {α : Type} {d : Kd α} {Q : α → Prop} (ht : P.underlying t = some (.slice e)) (hc : P.cellsOf e = d.sz) (he : Opens enc P w e d Q) :
    Opens enc P w t (Kd.slice e d) (fun l => l.length ≤ 9223372036854775807 ∧ ∀ x ∈ l, Q x) := by
  intro fuel cs x h
  rcases Deep.open_slice ht h with ⟨rfl, rfl⟩ | ⟨a, len, cap, m, n, D, Pl, rfl, _, hl, hm, hmm, rfl, hi⟩
  · exact ⟨[], ⟨none, 0, rfl, Nat.le_refl _, rfl, by simp, fun h => absurd h (by simp)⟩, by simp, fun x h => by simp at h⟩
  · have hm' : m = cap := hmm.trans (if_pos rfl)
    subst hm'
    obtain ⟨l, rfl, hcell, hq⟩ := opens_rows a len m n D Pl hc he hl hi
    unfold maxLen at hm
    exact ⟨l, ⟨some a, m, rfl, hl, rfl, by omega, fun _ => ⟨a, rfl, hcell⟩⟩, by omega, hq⟩

/-- A slice that is an argument. -/
theorem open_arg {t e : TypeId} {α : Type} {d : Kd α} {Q : α → Prop} {a : Option Addr} {len cap : Nat} {x : DataW H} {p : List MemPlace} (ht : P.underlying t = some (.slice e)) (hc : P.cellsOf e = d.sz) (he : Opens enc P w e d Q)
    (h : DataW.Trod enc P w 0 (fun _ => true) true t (.slice a len cap) x p) : ∃ l : List α, l.length = len ∧ l.length ≤ cap ∧ d.C w a l.length l ∧ l.length ≤ 9223372036854775807 ∧ ∀ x ∈ l, Q x := by
  obtain ⟨fuel, hf⟩ := h
  obtain ⟨l, ⟨A, c, hcs, hl, hC⟩, hm, hq⟩ := opens_slice ht hc he fuel _ _ hf
  simp only [Value.cells, List.cons.injEq, and_true] at hcs
  injection hcs with h1 h2 h3
  subst h1 h2 h3
  exact ⟨l, rfl, hl, hC, hm, hq⟩

/-- One cell of a value. -/
theorem open_cell {t : TypeId} {α : Type} {d : Kd α} {Q : α → Prop} (he : Opens enc P w t d Q) {n : Nat} {v : Value} {y : DataW H × List MemPlace} (h : DataW.trod enc P w 0 (fun _ => true) true n t [v] = some y) : ∃ a, d.K w a [v] ∧ Q a := he n _ _ h

theorem cell_slice {e : Nat} {α : Type} {d : Kd α} {l : List α} {v : Value} (h : (Kd.slice e d).K w l [v]) : ∃ A c, v = .slice A l.length c ∧ l.length ≤ c ∧ d.C w A l.length l := by
  obtain ⟨A, c, hcs, hl, hC⟩ := h
  exact ⟨A, c, by simpa using hcs, hl, hC⟩

theorem cells2 {cs : List Value} (h : cs.length = 2) : ∃ a b, cs = [a, b] := by
  match cs, h with
  | [a, b], _ => exact ⟨a, b, rfl⟩
theorem cells3 {cs : List Value} (h : cs.length = 3) : ∃ a b c, cs = [a, b, c] := by
  match cs, h with
  | [a, b, c], _ => exact ⟨a, b, c, rfl⟩
theorem cells4 {cs : List Value} (h : cs.length = 4) : ∃ a b c d, cs = [a, b, c, d] := by
  match cs, h with
  | [a, b, c, d], _ => exact ⟨a, b, c, d, rfl⟩
end

end Go.Proofs.Ytnfafdlglhbijaa.Open
