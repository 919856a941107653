/- The program's sum of every text is the reference's: the law answers true. No conditions but the reach of a text. -/
import Derived.Test.YtggolfbojjjafaaPFnExactSumOfx1
namespace Go.Proofs.Ytggolfbojjjafaa.Pure
open Go.RowKit Go.Proofs.Ytggolfbojjjafaa.PFnExactSumOf Go.Proofs.YtggolfbojjjafaaW.PrintWords Go.Proofs.YtggolfbojjjafaaW.PrintLast

theorem wrap_small {x : Int} (h0 : -9223372036854775808 ≤ x) (h1 : x ≤ 9223372036854775807) : wrap64 x = x := by
  unfold wrap64
  omega

theorem tmod_pos {x m : Int} (h : 0 ≤ x) : Int.tmod x m = x % m := Int.tmod_eq_emod_of_nonneg h

theorem sum_both (s : ByteArray) (hn : s.size ≤ 140737488351232) (d : Nat) : ∀ (k : Nat) (a b i : Int), 0 ≤ i → i ≤ s.size → (s.size : Int) - i = d → 0 ≤ a → a ≤ 254 → 0 ≤ b → b ≤ 254 → d < k →
    ∃ r, spec_SumOf.l0 k s a b i = some r ∧ impl_SumOf.l0 k s a b s.size i = some r ∧ 0 ≤ r ∧ r ≤ 65278 := by
  induction d with
  | zero =>
    intro k a b i h0 h1 hd ha0 ha1 hb0 hb1 hk
    obtain ⟨k, rfl⟩ : ∃ m, k = m + 1 := ⟨k - 1, by omega⟩
    refine ⟨256 * b + a, ?_, ?_, by omega, by omega⟩
    · simp only [spec_SumOf.l0]; rw [if_neg (by omega), wrap_small (x := 256 * b) (by omega) (by omega), wrap_small (by omega) (by omega)]
    · simp only [impl_SumOf.l0]; rw [if_neg (by omega), wrap_small (x := 256 * b) (by omega) (by omega), wrap_small (by omega) (by omega)]
  | succ d ih =>
    intro k a b i h0 h1 hd ha0 ha1 hb0 hb1 hk
    obtain ⟨k, rfl⟩ : ∃ m, k = m + 1 := ⟨k - 1, by omega⟩
    have hlt : i < (s.size : Int) := by omega
    have hr := bt_range s i
    have e1 : wrap64 (bt s i) = bt s i := wrap_small (by omega) (by omega)
    have e2 : wrap64 (a + bt s i) = a + bt s i := wrap_small (by omega) (by omega)
    have e3 : Int.tmod (a + bt s i) 255 = (a + bt s i) % 255 := tmod_pos (by omega)
    have e4 : wrap64 (b + (a + bt s i) % 255) = b + (a + bt s i) % 255 := wrap_small (by omega) (by omega)
    have e5 : Int.tmod (b + (a + bt s i) % 255) 255 = (b + (a + bt s i) % 255) % 255 := tmod_pos (by omega)
    have e6 : wrap64 (i + 1) = i + 1 := wrap_small (by omega) (by omega)
    obtain ⟨r, hs, hi, hr0, hr1⟩ := ih k ((a + bt s i) % 255) ((b + (a + bt s i) % 255) % 255) (i + 1) (by omega) (by omega) (by omega) (by omega) (by omega) (by omega) (by omega) (by omega)
    refine ⟨r, ?_, ?_, hr0, hr1⟩
    · simp only [spec_SumOf.l0]; rw [if_pos hlt, if_pos h0, e1, e2, e3, e4, e5, e6]; exact hs
    · simp only [impl_SumOf.l0]; rw [if_pos hlt, if_pos h0, if_pos hlt, e1, e2, e3, e4, e5, e6]; exact hi

theorem sum_some (s : ByteArray) (hn : s.size ≤ 140737488351232) (k : Nat) (hk : s.size < k) :
    ∃ r, spec_SumOf.f k s = some r ∧ impl_SumOf.f k s = some r ∧ 0 ≤ r ∧ r ≤ 65278 :=
  sum_both s hn s.size k 0 0 0 (by omega) (by omega) (by omega) (by omega) (by omega) (by omega) (by omega) hk

theorem FnExactSumOf : laws_FnExactSumOf.Pure := by
  intro s hn
  obtain ⟨r, hs, hi, _, _⟩ := sum_some s hn (s.size + 1) (by omega)
  refine ⟨s.size + 1, ?_⟩
  unfold laws_FnExactSumOf.f
  rw [hs, hi]; simp

end Go.Proofs.Ytggolfbojjjafaa.Pure
