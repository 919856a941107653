/- The program takes from the front of every text what the reference takes: the law answers true. No conditions but the reach of a text. -/
import Derived.Test.YtggolfbojjjafaaPFnExactTakeFramex2
namespace Go.Proofs.Ytggolfbojjjafaa.Pure
open Go.RowKit Go.Proofs.Ytggolfbojjjafaa.PFnExactTakeFrame Go.Proofs.YtggolfbojjjafaaW.PrintWords Go.Proofs.YtggolfbojjjafaaW.PrintLast

theorem wrap_small {x : Int} (h0 : -9223372036854775808 ≤ x) (h1 : x ≤ 9223372036854775807) : wrap64 x = x := by
  unfold wrap64
  omega

theorem tmod_pos {x m : Int} (h : 0 ≤ x) : Int.tmod x m = x % m := Int.tmod_eq_emod_of_nonneg h

theorem sum_both (s : ByteArray) (hn : s.size ≤ 140737488351232) (d : Nat) : ∀ (k : Nat) (a b i : Int), 0 ≤ i → i ≤ s.size → (s.size : Int) - i = d → 0 ≤ a → a ≤ 254 → 0 ≤ b → b ≤ 254 → d < k →
    ∃ r, spec_SumOf.l0 k s a b i = some r ∧ impl_SumOf.l0 k s a b s.size i = some r ∧ 0 ≤ r ∧ r ≤ 65278 := by
  induction d with
  | zero =>
    intro k a b i h0 h1 hd ha0 ha1 hb0 hb1 hk
    obtain ⟨k, rfl⟩ : ∃ m, k = m + 1 := ⟨k - 1, by omega⟩
    refine ⟨256 * b + a, ?_, ?_, by omega, by omega⟩
    · simp only [spec_SumOf.l0]; rw [if_neg (by omega), wrap_small (x := 256 * b) (by omega) (by omega), wrap_small (by omega) (by omega)]
    · simp only [impl_SumOf.l0]; rw [if_neg (by omega), wrap_small (x := 256 * b) (by omega) (by omega), wrap_small (by omega) (by omega)]
  | succ d ih =>
    intro k a b i h0 h1 hd ha0 ha1 hb0 hb1 hk
    obtain ⟨k, rfl⟩ : ∃ m, k = m + 1 := ⟨k - 1, by omega⟩
    have hlt : i < (s.size : Int) := by omega
    have hr := bt_range s i
    have e1 : wrap64 (bt s i) = bt s i := wrap_small (by omega) (by omega)
    have e2 : wrap64 (a + bt s i) = a + bt s i := wrap_small (by omega) (by omega)
    have e3 : Int.tmod (a + bt s i) 255 = (a + bt s i) % 255 := tmod_pos (by omega)
    have e4 : wrap64 (b + (a + bt s i) % 255) = b + (a + bt s i) % 255 := wrap_small (by omega) (by omega)
    have e5 : Int.tmod (b + (a + bt s i) % 255) 255 = (b + (a + bt s i) % 255) % 255 := tmod_pos (by omega)
    have e6 : wrap64 (i + 1) = i + 1 := wrap_small (by omega) (by omega)
    obtain ⟨r, hs, hi, hr0, hr1⟩ := ih k ((a + bt s i) % 255) ((b + (a + bt s i) % 255) % 255) (i + 1) (by omega) (by omega) (by omega) (by omega) (by omega) (by omega) (by omega) (by omega)
    refine ⟨r, ?_, ?_, hr0, hr1⟩
    · simp only [spec_SumOf.l0]; rw [if_pos hlt, if_pos h0, e1, e2, e3, e4, e5, e6]; exact hs
    · simp only [impl_SumOf.l0]; rw [if_pos hlt, if_pos h0, if_pos hlt, e1, e2, e3, e4, e5, e6]; exact hi

theorem sum_some (s : ByteArray) (hn : s.size ≤ 140737488351232) (k : Nat) (hk : s.size < k) :
    ∃ r, spec_SumOf.f k s = some r ∧ impl_SumOf.f k s = some r ∧ 0 ≤ r ∧ r ≤ 65278 :=
  sum_both s hn s.size k 0 0 0 (by omega) (by omega) (by omega) (by omega) (by omega) (by omega) (by omega) hk

theorem strOfNums_size (l : List Int) : (strOfNums l).size = l.length := by
  simp [strOfNums, ByteArray.size]

theorem frame_some (s : ByteArray) (hn : s.size ≤ 140737488351232) (k : Nat) (hk : s.size < k) :
    ∃ r, spec_l1Frame.f k s = some r ∧ impl_frame.f k s = some r := by
  obtain ⟨r, hs, hi, hr0, hr1⟩ := sum_some s hn k hk
  have e1 : Int.tdiv r 256 = r / 256 := Int.tdiv_eq_ediv_of_nonneg hr0
  have e2 : Int.tmod r 256 = r % 256 := tmod_pos hr0
  have e3 : wrap64 (r / 256) = r / 256 := wrap_small (by omega) (by omega)
  have e4 : r % 256 % 256 = r % 256 := by omega
  refine ⟨(strOfNums [(s.size : Int) % 256] ++ s) ++ strOfNums [r / 256 % 256, r % 256], ?_, ?_⟩
  · unfold spec_l1Frame.f
    rw [hs]; simp only [Option.bind_some]
    rw [if_pos (by rw [strOfNums_size]; simp; omega), if_pos (by rw [strOfNums_size]; simp [ByteArray.size_append, strOfNums_size]; omega)]
  · unfold impl_frame.f
    rw [hi]; simp only [Option.bind_some]
    rw [e1, e2, e3, e4, if_pos (by rw [strOfNums_size]; simp; omega), if_pos (by rw [strOfNums_size]; simp [ByteArray.size_append, strOfNums_size]; omega)]

theorem take_some (s : ByteArray) (hn : s.size ≤ 140737488351232) : ∃ r, spec_TakeFrame.f (s.size + 2) s = some r ∧ impl_TakeFrame.f (s.size + 2) s = some r := by
  have hb := bt_range s 0
  have e1 : wrap64 (bt s 0) = bt s 0 := wrap_small (by omega) (by omega)
  have e2 : wrap64 (bt s 0 + 3) = bt s 0 + 3 := wrap_small (by omega) (by omega)
  have e3 : wrap64 (bt s 0 + 3 - 2) = 1 + bt s 0 := by rw [wrap_small (by omega) (by omega)]; omega
  have e4 : wrap64 (1 + bt s 0) = 1 + bt s 0 := wrap_small (by omega) (by omega)
  have hl : s.toList = [] ↔ s.size = 0 := by
    rw [← List.length_eq_zero_iff, ByteArray.toList_eq, data_length]
  by_cases h0 : s.size = 0
  · refine ⟨(⟨#[]⟩, 0, false), ?_, ?_⟩
    · unfold spec_TakeFrame.f
      rw [if_pos (by omega)]; simp [spec_TakeFrame.j0]
    · unfold impl_TakeFrame.f
      rw [if_pos (hl.2 h0)]; simp [impl_TakeFrame.j0]
  by_cases h1 : bt s 0 > 60
  · refine ⟨(⟨#[]⟩, 0, false), ?_, ?_⟩
    · unfold spec_TakeFrame.f
      rw [if_neg (by omega), if_pos (by omega), if_pos h1]; simp [spec_TakeFrame.j0]
    · unfold impl_TakeFrame.f
      rw [if_neg (fun h => h0 (hl.1 h)), if_pos (by omega), e1, if_pos h1]; simp [impl_TakeFrame.j0]
  by_cases h2 : (s.size : Int) < bt s 0 + 3
  · refine ⟨(⟨#[]⟩, 0, false), ?_, ?_⟩
    · unfold spec_TakeFrame.f
      rw [if_neg (by omega), if_pos (by omega), if_neg h1, e1, e2]; simp [spec_TakeFrame.j0, h2]
    · unfold impl_TakeFrame.f
      rw [if_neg (fun h => h0 (hl.1 h)), if_pos (by omega), e1, if_neg h1, e2]; simp [impl_TakeFrame.j0, h2]
  obtain ⟨t, hs, hi⟩ := frame_some (s.extract 1 (1 + bt s 0).toNat) (by rw [ByteArray.size_extract]; omega) (s.size + 1) (by rw [ByteArray.size_extract]; omega)
  refine ⟨if t.toList = (s.extract 0 (bt s 0 + 3).toNat).toList then (s.extract 1 (1 + bt s 0).toNat, bt s 0 + 3, true) else (⟨#[]⟩, 0, false), ?_, ?_⟩
  · unfold spec_TakeFrame.f
    rw [if_neg (by omega), if_pos (by omega), if_neg h1, e1, e2]
    simp only [spec_TakeFrame.j0, h2, decide_false, Bool.false_eq_true, if_false]
    rw [if_pos (by omega), e1, e2, e3, if_pos (by omega), if_pos (by omega), hs]; simp only [Option.bind_some]
    rw [if_pos (by omega), if_pos (by omega)]
    split <;> rfl
  · unfold impl_TakeFrame.f
    rw [if_neg (fun h => h0 (hl.1 h)), if_pos (by omega), e1, if_neg h1, e2]
    simp only [impl_TakeFrame.j0, h2, decide_false, Bool.false_eq_true, if_false]
    rw [if_pos (by omega), e1, e2, e4, if_pos (by omega), if_pos (by omega), hi]; simp only [Option.bind_some]
    rw [if_pos (by omega), if_pos (by omega)]
    split <;> rfl

theorem FnExactTakeFrame : laws_FnExactTakeFrame.Pure := by
  intro s hn
  obtain ⟨r, hs, hi⟩ := take_some s hn
  refine ⟨s.size + 2, ?_⟩
  unfold laws_FnExactTakeFrame.f
  rw [hs, hi]
  by_cases h : (s.size : Int) > 1048576 <;> simp [h]

end Go.Proofs.Ytggolfbojjjafaa.Pure
