/- Frames of texts are taken back whole, and a text with a byte changed has another sum but where the two bytes are one for the sum: the law answers true. No conditions but the reach of a slice. -/
import Derived.Test.YtggolfbojjjafaaPFnFramesx3
namespace Go.Proofs.Ytggolfbojjjafaa.Pure
open Go.RowKit Go.Proofs.Ytggolfbojjjafaa.PFnFrames Go.Proofs.YtggolfbojjjafaaW.PrintWords Go.Proofs.YtggolfbojjjafaaW.PrintLast
set_option linter.unusedVariables false
set_option linter.unusedSimpArgs false

theorem wrap_small {x : Int} (h0 : -9223372036854775808 ≤ x) (h1 : x ≤ 9223372036854775807) : wrap64 x = x := by
  unfold wrap64
  omega

theorem tmod_pos {x m : Int} (h : 0 ≤ x) : Int.tmod x m = x % m := Int.tmod_eq_emod_of_nonneg h

theorem sum_both (s : ByteArray) (hn : s.size ≤ 140737488351232) (d : Nat) : ∀ (k : Nat) (a b i : Int), 0 ≤ i → i ≤ s.size → (s.size : Int) - i = d → 0 ≤ a → a ≤ 254 → 0 ≤ b → b ≤ 254 → d < k →
    ∃ r, spec_SumOf.l0 k s a b i = some r ∧ impl_SumOf.l0 k s a b s.size i = some r ∧ 0 ≤ r ∧ r ≤ 65278 := by
  induction d with
  | zero =>
    intro k a b i h0 h1 hd ha0 ha1 hb0 hb1 hk
    obtain ⟨k, rfl⟩ : ∃ m, k = m + 1 := ⟨k - 1, by omega⟩
    refine ⟨256 * b + a, ?_, ?_, by omega, by omega⟩
    · simp only [spec_SumOf.l0]; rw [if_neg (by omega), wrap_small (x := 256 * b) (by omega) (by omega), wrap_small (by omega) (by omega)]
    · simp only [impl_SumOf.l0]; rw [if_neg (by omega), wrap_small (x := 256 * b) (by omega) (by omega), wrap_small (by omega) (by omega)]
  | succ d ih =>
    intro k a b i h0 h1 hd ha0 ha1 hb0 hb1 hk
    obtain ⟨k, rfl⟩ : ∃ m, k = m + 1 := ⟨k - 1, by omega⟩
    have hlt : i < (s.size : Int) := by omega
    have hr := bt_range s i
    have e1 : wrap64 (bt s i) = bt s i := wrap_small (by omega) (by omega)
    have e2 : wrap64 (a + bt s i) = a + bt s i := wrap_small (by omega) (by omega)
    have e3 : Int.tmod (a + bt s i) 255 = (a + bt s i) % 255 := tmod_pos (by omega)
    have e4 : wrap64 (b + (a + bt s i) % 255) = b + (a + bt s i) % 255 := wrap_small (by omega) (by omega)
    have e5 : Int.tmod (b + (a + bt s i) % 255) 255 = (b + (a + bt s i) % 255) % 255 := tmod_pos (by omega)
    have e6 : wrap64 (i + 1) = i + 1 := wrap_small (by omega) (by omega)
    obtain ⟨r, hs, hi, hr0, hr1⟩ := ih k ((a + bt s i) % 255) ((b + (a + bt s i) % 255) % 255) (i + 1) (by omega) (by omega) (by omega) (by omega) (by omega) (by omega) (by omega) (by omega)
    refine ⟨r, ?_, ?_, hr0, hr1⟩
    · simp only [spec_SumOf.l0]; rw [if_pos hlt, if_pos h0, e1, e2, e3, e4, e5, e6]; exact hs
    · simp only [impl_SumOf.l0]; rw [if_pos hlt, if_pos h0, if_pos hlt, e1, e2, e3, e4, e5, e6]; exact hi

theorem sum_some (s : ByteArray) (hn : s.size ≤ 140737488351232) (k : Nat) (hk : s.size < k) :
    ∃ r, spec_SumOf.f k s = some r ∧ impl_SumOf.f k s = some r ∧ 0 ≤ r ∧ r ≤ 65278 :=
  sum_both s hn s.size k 0 0 0 (by omega) (by omega) (by omega) (by omega) (by omega) (by omega) (by omega) hk

theorem strOfNums_size (l : List Int) : (strOfNums l).size = l.length := by
  simp [strOfNums, ByteArray.size]

theorem frame_some (s : ByteArray) (hn : s.size ≤ 140737488351232) (k : Nat) (hk : s.size < k) :
    ∃ r, spec_l1Frame.f k s = some r ∧ impl_frame.f k s = some r := by
  obtain ⟨r, hs, hi, hr0, hr1⟩ := sum_some s hn k hk
  have e1 : Int.tdiv r 256 = r / 256 := Int.tdiv_eq_ediv_of_nonneg hr0
  have e2 : Int.tmod r 256 = r % 256 := tmod_pos hr0
  have e3 : wrap64 (r / 256) = r / 256 := wrap_small (by omega) (by omega)
  have e4 : r % 256 % 256 = r % 256 := by omega
  refine ⟨(strOfNums [(s.size : Int) % 256] ++ s) ++ strOfNums [r / 256 % 256, r % 256], ?_, ?_⟩
  · unfold spec_l1Frame.f
    rw [hs]; simp only [Option.bind_some]
    rw [if_pos (by rw [strOfNums_size]; simp; omega), if_pos (by rw [strOfNums_size]; simp [ByteArray.size_append, strOfNums_size]; omega)]
  · unfold impl_frame.f
    rw [hi]; simp only [Option.bind_some]
    rw [e1, e2, e3, e4, if_pos (by rw [strOfNums_size]; simp; omega), if_pos (by rw [strOfNums_size]; simp [ByteArray.size_append, strOfNums_size]; omega)]

theorem frame_both (s : ByteArray) (hn : s.size ≤ 140737488351232) (k : Nat) (hk : s.size < k) :
    ∃ r, spec_l1Frame.f k s = some r ∧ impl_frame.f k s = some r ∧ r.size = s.size + 3 := by
  obtain ⟨r, hs, hi, hr0, hr1⟩ := sum_some s hn k hk
  have e1 : Int.tdiv r 256 = r / 256 := Int.tdiv_eq_ediv_of_nonneg hr0
  have e2 : Int.tmod r 256 = r % 256 := tmod_pos hr0
  have e3 : wrap64 (r / 256) = r / 256 := wrap_small (by omega) (by omega)
  have e4 : r % 256 % 256 = r % 256 := by omega
  refine ⟨(strOfNums [(s.size : Int) % 256] ++ s) ++ strOfNums [r / 256 % 256, r % 256], ?_, ?_, ?_⟩
  · unfold spec_l1Frame.f
    rw [hs]; simp only [Option.bind_some]
    rw [if_pos (by rw [strOfNums_size]; simp; omega), if_pos (by rw [strOfNums_size]; simp [ByteArray.size_append, strOfNums_size]; omega)]
  · unfold impl_frame.f
    rw [hi]; simp only [Option.bind_some]
    rw [e1, e2, e3, e4, if_pos (by rw [strOfNums_size]; simp; omega), if_pos (by rw [strOfNums_size]; simp [ByteArray.size_append, strOfNums_size]; omega)]
  · simp [ByteArray.size_append, strOfNums_size]; omega

theorem take_both (s : ByteArray) (hn : s.size ≤ 140737488351232) (k : Nat) (hk : s.size + 2 ≤ k) : ∃ r, spec_TakeFrame.f k s = some r ∧ impl_TakeFrame.f k s = some r ∧ r.1.size ≤ s.size ∧ 0 ≤ r.2.1 ∧ r.2.1 ≤ (s.size : Int) := by
  obtain ⟨k, rfl⟩ : ∃ m, k = m + 1 := ⟨k - 1, by omega⟩
  have hb := bt_range s 0
  have e1 : wrap64 (bt s 0) = bt s 0 := wrap_small (by omega) (by omega)
  have e2 : wrap64 (bt s 0 + 3) = bt s 0 + 3 := wrap_small (by omega) (by omega)
  have e3 : wrap64 (bt s 0 + 3 - 2) = 1 + bt s 0 := by rw [wrap_small (by omega) (by omega)]; omega
  have e4 : wrap64 (1 + bt s 0) = 1 + bt s 0 := wrap_small (by omega) (by omega)
  have hl : s.toList = [] ↔ s.size = 0 := by
    rw [← List.length_eq_zero_iff, ByteArray.toList_eq, data_length]
  by_cases h0 : s.size = 0
  · refine ⟨(⟨#[]⟩, 0, false), ?_, ?_, Nat.zero_le _, Int.le_refl _, by show (0 : Int) ≤ s.size; omega⟩
    · unfold spec_TakeFrame.f
      rw [if_pos (by omega)]; simp [spec_TakeFrame.j0]
    · unfold impl_TakeFrame.f
      rw [if_pos (hl.2 h0)]; simp [impl_TakeFrame.j0]
  by_cases h1 : bt s 0 > 60
  · refine ⟨(⟨#[]⟩, 0, false), ?_, ?_, Nat.zero_le _, Int.le_refl _, by show (0 : Int) ≤ s.size; omega⟩
    · unfold spec_TakeFrame.f
      rw [if_neg (by omega), if_pos (by omega), if_pos h1]; simp [spec_TakeFrame.j0]
    · unfold impl_TakeFrame.f
      rw [if_neg (fun h => h0 (hl.1 h)), if_pos (by omega), e1, if_pos h1]; simp [impl_TakeFrame.j0]
  by_cases h2 : (s.size : Int) < bt s 0 + 3
  · refine ⟨(⟨#[]⟩, 0, false), ?_, ?_, Nat.zero_le _, Int.le_refl _, by show (0 : Int) ≤ s.size; omega⟩
    · unfold spec_TakeFrame.f
      rw [if_neg (by omega), if_pos (by omega), if_neg h1, e1, e2]; simp [spec_TakeFrame.j0, h2]
    · unfold impl_TakeFrame.f
      rw [if_neg (fun h => h0 (hl.1 h)), if_pos (by omega), e1, if_neg h1, e2]; simp [impl_TakeFrame.j0, h2]
  obtain ⟨t, hs, hi⟩ := frame_some (s.extract 1 (1 + bt s 0).toNat) (by rw [ByteArray.size_extract]; omega) k (by rw [ByteArray.size_extract]; omega)
  refine ⟨if t.toList = (s.extract 0 (bt s 0 + 3).toNat).toList then (s.extract 1 (1 + bt s 0).toNat, bt s 0 + 3, true) else (⟨#[]⟩, 0, false), ?_, ?_, ?_, ?_, ?_⟩
  · unfold spec_TakeFrame.f
    rw [if_neg (by omega), if_pos (by omega), if_neg h1, e1, e2]
    simp only [spec_TakeFrame.j0, h2, decide_false, Bool.false_eq_true, if_false]
    rw [if_pos (by omega), e1, e2, e3, if_pos (by omega), if_pos (by omega), hs]; simp only [Option.bind_some]
    rw [if_pos (by omega), if_pos (by omega)]
    split <;> rfl
  · unfold impl_TakeFrame.f
    rw [if_neg (fun h => h0 (hl.1 h)), if_pos (by omega), e1, if_neg h1, e2]
    simp only [impl_TakeFrame.j0, h2, decide_false, Bool.false_eq_true, if_false]
    rw [if_pos (by omega), e1, e2, e4, if_pos (by omega), if_pos (by omega), hi]; simp only [Option.bind_some]
    rw [if_pos (by omega), if_pos (by omega)]
    split <;> rfl
  · split
    · show (s.extract 1 (1 + bt s 0).toNat).size ≤ s.size
      rw [ByteArray.size_extract]; omega
    · show (0 : Nat) ≤ s.size
      omega
  · split
    · show 0 ≤ bt s 0 + 3
      omega
    · simp
  · split
    · show bt s 0 + 3 ≤ (s.size : Int)
      omega
    · simp

def BytesIn (l : List Int) : Prop := ∀ x ∈ l, 0 ≤ x ∧ x ≤ 255
theorem bytesIn_of {l : List Int} (h : ∀ x ∈ l, (Lit.int .u8 x).wf = true) : BytesIn l := fun x hx => by
  have := h x hx
  simp only [Lit.wf, Bool.and_eq_true, decide_eq_true_eq] at this
  exact ⟨this.1, this.2⟩
theorem rd_byte {l : List Int} (h : BytesIn l) (i : Int) : 0 ≤ rd l i ∧ rd l i ≤ 255 := by
  unfold rd
  rw [List.getD_eq_getElem?_getD]
  by_cases c : i.toNat < l.length
  · rw [List.getElem?_eq_getElem c]; exact h _ (List.getElem_mem c)
  · rw [List.getElem?_eq_none (by omega)]; simp
theorem and_byte (x : Int) (h0 : 0 ≤ x) (h1 : x < 18446744073709551616) : 0 ≤ Go.bits .and .u64 x 255 ∧ Go.bits .and .u64 x 255 ≤ 255 := by
  rw [u64_and x 255 h0 h1 (by omega) (by omega)]
  have : x.toNat &&& (255 : Int).toNat ≤ (255 : Int).toNat := Nat.and_le_right
  simp only [Int.reduceToNat] at this ⊢
  omega
theorem u64_range (x : Int) : 0 ≤ IntKind.u64.wrap x ∧ IntKind.u64.wrap x < 18446744073709551616 := by rw [IntKind.wrap_u64]; omega
theorem and_wrap (y : Int) : 0 ≤ wrap64 (Go.bits .and .u64 (IntKind.u64.wrap y / 1099511627776) 255) ∧ wrap64 (Go.bits .and .u64 (IntKind.u64.wrap y / 1099511627776) 255) ≤ 255 := by
  have h := u64_range y
  have := and_byte (IntKind.u64.wrap y / 1099511627776) (by omega) (by omega)
  rw [wrap_small (by omega) (by omega)]; exact this
theorem next_b {l : List Int} (hb : BytesIn l) (s t : Int) (h0 : 0 ≤ s) (h1 : s ≤ 1000000000000) : ∃ v t', spec_l1Cur_next.f l s t = some (v, s + 1, t') ∧ 0 ≤ v ∧ v ≤ 255 := by
  unfold spec_l1Cur_next.f
  have hr := rd_byte hb s
  rw [wrap_small (x := s + 1) (by omega) (by omega), wrap_small (x := rd l s) (by omega) (by omega)]
  by_cases h : s < l.length
  · rw [if_pos h, if_pos h0, if_pos (by omega)]
    exact ⟨_, _, rfl, hr.1, hr.2⟩
  · rw [if_neg h, if_neg (by omega)]
    have := and_wrap (IntKind.u64.wrap (IntKind.u64.wrap (t * 6364136223846793005) + 0) + 1442695040888963407)
    exact ⟨_, _, rfl, this.1, this.2⟩
theorem pick_b {l : List Int} (hb : BytesIn l) (s t n : Int) (h0 : 0 ≤ s) (h1 : s ≤ 100000000000) (hn : n ≤ 70000) : ∃ v s' t', spec_l1Cur_pick.f l s t n = some (v, s', t') ∧ 0 ≤ v ∧ (v < n ∨ v = 0) ∧ s ≤ s' ∧ s' ≤ s + 2 := by
  unfold spec_l1Cur_pick.f
  by_cases c : n ≤ 1
  · rw [if_pos c]; exact ⟨_, _, _, rfl, by omega, .inr rfl, by omega, by omega⟩
  rw [if_neg c]
  obtain ⟨v, t', hv, hv0, hv1⟩ := next_b hb s t h0 (by omega)
  rw [hv]; simp only [Option.bind_some]
  by_cases c2 : n > 200
  · obtain ⟨u, t2, hu, hu0, hu1⟩ := next_b hb (s + 1) t' (by omega) (by omega)
    rw [if_pos c2, hu]; simp only [Option.bind_some]
    rw [if_neg (by omega), wrap_small (x := v * 256) (by omega) (by omega), wrap_small (x := v * 256 + u) (by omega) (by omega), Int.tmod_eq_emod_of_nonneg (by omega)]
    exact ⟨_, _, _, rfl, Int.emod_nonneg _ (by omega), .inl (Int.emod_lt_of_pos _ (by omega)), by omega, by omega⟩
  · rw [if_neg c2, if_neg (by omega), Int.tmod_eq_emod_of_nonneg hv0]
    exact ⟨_, _, _, rfl, Int.emod_nonneg _ (by omega), .inl (Int.emod_lt_of_pos _ (by omega)), by omega, by omega⟩
theorem one_b {l : List Int} (hb : BytesIn l) (s t n : Int) (h0 : 0 ≤ s) (h1 : s ≤ 100000000000) (hn : n ≤ 70000) : ∃ v s' t', spec_l1Cur_one.f l s t n = some (v, s', t') ∧ s ≤ s' ∧ s' ≤ s + 2 := by
  obtain ⟨v, s', t', h, _, _, h2, h3⟩ := pick_b hb s t n h0 h1 hn
  unfold spec_l1Cur_one.f
  rw [h]; exact ⟨_, _, _, rfl, h2, h3⟩

theorem spoilt_end (k : Nat) (x1 x2 : ByteArray) (n : Int) (l : List Int) (s t : Int) : spec_l1Cur_spoilt.j1 (k + 1) x1 x2 n false l s t = some (x1, s, t) := by
  rw [spec_l1Cur_spoilt.j1, if_neg (by decide)]
theorem bytes_l0 {l : List Int} (hb : BytesIn l) (m : Nat) : ∀ (k : Nat) (x : List Int) (n s t : Int), n ≤ m → m < k → x.length + m ≤ 100000 → 0 ≤ s → s + m ≤ 1000000 → ∃ y s' t', spec_l1Cur_bytes.l0 k x n l s t = some (y, s', t') ∧ y.length ≤ x.length + m ∧ s ≤ s' ∧ s' ≤ s + m := by
  induction m with
  | zero =>
    intro k x n s t hn hk hx h0 h1
    obtain ⟨k, rfl⟩ : ∃ m, k = m + 1 := ⟨k - 1, by omega⟩
    refine ⟨x, s, t, ?_, by omega, by omega, by omega⟩
    simp only [spec_l1Cur_bytes.l0]; rw [if_neg (by omega)]
  | succ m ih =>
    intro k x n s t hn hk hx h0 h1
    obtain ⟨k, rfl⟩ : ∃ m, k = m + 1 := ⟨k - 1, by omega⟩
    simp only [spec_l1Cur_bytes.l0]
    by_cases c : n > 0
    · obtain ⟨v, t', hv, hv0, hv1⟩ := next_b hb s t h0 (by omega)
      rw [if_pos c, hv]; simp only [Option.bind_some]
      rw [if_pos (by omega), wrap_small (x := n - 1) (by omega) (by omega)]
      obtain ⟨y, s', t2, h, hy, h2, h3⟩ := ih k (x ++ [v % 256]) (n - 1) (s + 1) t' (by omega) (by omega) (by rw [List.length_append, List.length_singleton]; omega) (by omega) (by omega)
      rw [List.length_append, List.length_singleton] at hy
      exact ⟨y, s', t2, h, by omega, by omega, by omega⟩
    · rw [if_neg c]
      exact ⟨x, s, t, rfl, by omega, by omega, by omega⟩
theorem bytes_b {l : List Int} (hb : BytesIn l) (k : Nat) (hk : 1000 < k) (s t a : Int) (h0 : 0 ≤ s) (h1 : s ≤ 10000) (ha0 : 0 ≤ a) (ha : a ≤ 100) : ∃ y s' t', spec_l1Cur_bytes.f k l s t a = some (y, s', t') ∧ y.length ≤ 100 ∧ s ≤ s' ∧ s' ≤ s + 102 := by
  unfold spec_l1Cur_bytes.f
  rw [wrap_small (x := a + 1) (by omega) (by omega)]
  obtain ⟨v, s1, t1, h, hv0, hv1, h2, h3⟩ := pick_b hb s t (a + 1) h0 (by omega) (by omega)
  rw [h]; simp only [Option.bind_some]
  obtain ⟨y, s', t2, h, hy, h4, h5⟩ := bytes_l0 hb 100 k [] v s1 t1 (by omega) (by omega) (by simp) (by omega) (by omega)
  exact ⟨y, s', t2, h, by simpa using hy, by omega, by omega⟩
theorem raw_b {l : List Int} (hb : BytesIn l) (k : Nat) (hk : 1000 < k) (s t : Int) (h0 : 0 ≤ s) (h1 : s ≤ 1000) : ∃ y s' t', spec_l1Cur_raw.f k l s t = some (y, s', t') ∧ y.size ≤ 100 ∧ s ≤ s' ∧ s' ≤ s + 106 := by
  unfold spec_l1Cur_raw.f
  obtain ⟨v, s1, t1, h, h2, h3⟩ := one_b hb s t 20 h0 (by omega) (by omega)
  rw [h]; simp only [Option.bind_some]
  cases v with
  | true =>
    rw [if_pos rfl]
    obtain ⟨v, s2, t2, h, hv0, hv1, h4, h5⟩ := pick_b hb s1 t1 2 (by omega) (by omega) (by omega)
    rw [h]; simp only [Option.bind_some]
    rw [wrap_small (x := 60 + v) (by omega) (by omega), if_pos (by omega), if_pos (by omega)]
    exact ⟨_, s2, t2, rfl, by rw [strOfNums_size, List.length_replicate]; omega, by omega, by omega⟩
  | false =>
    rw [if_neg (by decide)]
    obtain ⟨v, s2, t2, h, hv0, hv1, h4, h5⟩ := pick_b hb s1 t1 8 (by omega) (by omega) (by omega)
    rw [h]; simp only [Option.bind_some]
    obtain ⟨y, s3, t3, h, hy, h6, h7⟩ := bytes_b hb k hk s2 t2 v (by omega) (by omega) (by omega) (by omega)
    rw [h]; simp only [Option.bind_some]
    exact ⟨_, s3, t3, rfl, by rw [strOfNums_size]; omega, by omega, by omega⟩
theorem spoilt_l0 {l : List Int} (hb : BytesIn l) (x2 : ByteArray) (h2 : x2.size = 3) (m : Nat) : ∀ (k : Nat) (x1 : ByteArray) (n s t : Int), n ≤ m → 2 * m + 1 < k → x1.size + m ≤ 60000 → 0 ≤ s → s + 6 * m ≤ 1000000 → ∃ y s' t', spec_l1Cur_spoilt.l0 k x1 x2 n l s t = some (y, s', t') ∧ y.size ≤ x1.size + m ∧ s ≤ s' ∧ s' ≤ s + 6 * m := by
  induction m with
  | zero =>
    intro k x1 n s t hn hk hx h0 h1
    obtain ⟨k, rfl⟩ : ∃ m, k = m + 2 := ⟨k - 2, by omega⟩
    refine ⟨x1, s, t, ?_, by omega, by omega, by omega⟩
    rw [spec_l1Cur_spoilt.l0, if_neg (by omega), spoilt_end]
  | succ m ih =>
    intro k x1 n s t hn hk hx h0 h1
    obtain ⟨k, rfl⟩ : ∃ m, k = m + 2 := ⟨k - 2, by omega⟩
    rw [spec_l1Cur_spoilt.l0]
    by_cases c : n > 0
    · by_cases hx1 : (x1.size : Int) > 0
      · rw [if_pos c, decide_eq_true hx1, spec_l1Cur_spoilt.j1, if_pos rfl]
        obtain ⟨a, s1, t1, ha, ha0, ha1, g1, g2⟩ := pick_b hb s t (x1.size : Int) h0 (by omega) (by omega)
        rw [ha]; simp only [Option.bind_some]
        obtain ⟨b, s2, t2, hbb, hb0, hb1, g3, g4⟩ := pick_b hb s1 t1 (x2.size : Int) (by omega) (by omega) (by omega)
        rw [hbb]; simp only [Option.bind_some]
        rw [if_pos (by omega), if_pos (by omega)]
        obtain ⟨d, s3, t3, hd, hd0, hd1, g5, g6⟩ := pick_b hb s2 t2 3 (by omega) (by omega) (by omega)
        rw [hd]; simp only [Option.bind_some]
        rw [wrap_small (x := n - 1) (by omega) (by omega), wrap_small (x := a + 1) (by omega) (by omega)]
        have fin : ∀ z : ByteArray, z.size ≤ x1.size + 1 → ∃ y s' t', spec_l1Cur_spoilt.l0 k z x2 (n - 1) l s3 t3 = some (y, s', t') ∧ y.size ≤ x1.size + (m + 1) ∧ s ≤ s' ∧ s' ≤ s + 6 * ((m + 1 : Nat) : Int) := by
          intro z hz
          obtain ⟨y, s', t', h, hy, h4, h5⟩ := ih k z (n - 1) s3 t3 (by omega) (by omega) (by omega) (by omega) (by omega)
          exact ⟨y, s', t', h, by omega, by omega, by omega⟩
        by_cases d0 : d = 0
        · rw [if_pos d0, if_pos (by omega), if_pos (by omega), if_pos (by rw [strOfNums_size, ByteArray.size_extract, List.length_singleton]; omega), if_pos (by rw [ByteArray.size_append, strOfNums_size, ByteArray.size_extract, ByteArray.size_extract, List.length_singleton]; omega)]
          exact fin _ (by rw [ByteArray.size_append, ByteArray.size_append, strOfNums_size, ByteArray.size_extract, ByteArray.size_extract, List.length_singleton]; omega)
        · rw [if_neg d0]
          by_cases d1 : d = 1
          · rw [if_pos d1, if_pos (by omega), if_pos (by omega), if_pos (by rw [strOfNums_size, ByteArray.size_extract, List.length_singleton]; omega), if_pos (by omega), if_pos (by omega), if_pos (by rw [ByteArray.size_append, strOfNums_size, ByteArray.size_extract, ByteArray.size_extract, List.length_singleton]; omega)]
            exact fin _ (by rw [ByteArray.size_append, ByteArray.size_append, strOfNums_size, ByteArray.size_extract, ByteArray.size_extract, List.length_singleton]; omega)
          · rw [if_neg d1, if_pos (by omega), if_pos (by omega), if_pos (by omega), if_pos (by omega), if_pos (by rw [ByteArray.size_extract, ByteArray.size_extract]; omega)]
            exact fin _ (by rw [ByteArray.size_append, ByteArray.size_extract, ByteArray.size_extract]; omega)
      · rw [if_pos c, decide_eq_false hx1, spoilt_end]
        exact ⟨x1, s, t, rfl, by omega, by omega, by omega⟩
    · rw [if_neg c, spoilt_end]
      exact ⟨x1, s, t, rfl, by omega, by omega, by omega⟩
theorem spoilt_b {l : List Int} (hb : BytesIn l) (k : Nat) (hk : 1000 < k) (x1 x2 : ByteArray) (h2 : x2.size = 3) (hx : x1.size ≤ 1000) (s t : Int) (h0 : 0 ≤ s) (h1 : s ≤ 1000) : ∃ y s' t', spec_l1Cur_spoilt.f k l s t x1 x2 = some (y, s', t') ∧ y.size ≤ 1002 ∧ s ≤ s' ∧ s' ≤ s + 14 := by
  unfold spec_l1Cur_spoilt.f
  obtain ⟨v, s1, t1, h, hv0, hv1, h3, h4⟩ := pick_b hb s t 3 h0 (by omega) (by omega)
  rw [h]; simp only [Option.bind_some]
  obtain ⟨y, s', t2, h, hy, h5, h6⟩ := spoilt_l0 hb x2 h2 2 k x1 v s1 t1 (by omega) (by omega) (by omega) (by omega) (by omega)
  exact ⟨y, s', t2, h, by omega, by omega, by omega⟩
theorem drawframe_b {l : List Int} (hb : BytesIn l) (k : Nat) (hk : 1000 < k) : ∃ y, spec_DrawFrameBytes.f k l = some y ∧ y.size ≤ 100 := by
  unfold spec_DrawFrameBytes.f spec_DrawSumOf.f
  obtain ⟨y, s', t', h, hy, _, _⟩ := raw_b hb k hk 0 0 (by omega) (by omega)
  rw [h]; exact ⟨y, rfl, hy⟩
theorem drawtake_b {l : List Int} (hb : BytesIn l) (k : Nat) (hk : 1000 < k) : ∃ y, spec_DrawTakeFrame.f k l = some y ∧ y.size ≤ 2000 := by
  unfold spec_DrawTakeFrame.f
  obtain ⟨y, s1, t1, h, hy, h1, h2⟩ := raw_b hb k hk 0 0 (by omega) (by omega)
  rw [h]; simp only [Option.bind_some]
  obtain ⟨p, hp, hps⟩ : ∃ p, spec_FrameBytes.f k y = some p ∧ p.1.size ≤ 103 := by
    obtain ⟨r, hr, _, hrs⟩ := frame_both y (by omega) k (by omega)
    unfold spec_FrameBytes.f
    by_cases c : (y.size : Int) > 60
    · rw [if_pos c]; exact ⟨_, rfl, Nat.zero_le _⟩
    · rw [if_neg c, hr]; exact ⟨_, rfl, by show r.size ≤ 103; omega⟩
  rw [hp]; simp only [Option.bind_some]
  obtain ⟨v, s2, t2, h, h3, h4⟩ := one_b hb s1 t1 3 (by omega) (by omega) (by omega)
  rw [h]; simp only [Option.bind_some]
  cases v with
  | true =>
    rw [if_pos rfl]
    obtain ⟨z, s3, t3, h, hz, h5, h6⟩ := spoilt_b hb k hk p.1 (⟨#[0, 1, 97]⟩ : ByteArray) rfl (by omega) s2 t2 (by omega) (by omega)
    rw [h]; simp only [Option.bind_some]
    obtain ⟨v, s4, t4, h, hv0, hv1, h7, h8⟩ := pick_b hb s3 t3 3 (by omega) (by omega) (by omega)
    rw [h]; simp only [Option.bind_some]
    obtain ⟨w, s5, t5, h, hw, h9, h10⟩ := bytes_b hb k hk s4 t4 v (by omega) (by omega) (by omega) (by omega)
    rw [h]; simp only [Option.bind_some]
    rw [if_pos (by rw [strOfNums_size]; omega)]
    exact ⟨_, rfl, by rw [ByteArray.size_append, strOfNums_size]; omega⟩
  | false =>
    rw [if_neg (by decide)]
    obtain ⟨v, s4, t4, h, hv0, hv1, h7, h8⟩ := pick_b hb s2 t2 3 (by omega) (by omega) (by omega)
    rw [h]; simp only [Option.bind_some]
    obtain ⟨w, s5, t5, h, hw, h9, h10⟩ := bytes_b hb k hk s4 t4 v (by omega) (by omega) (by omega) (by omega)
    rw [h]; simp only [Option.bind_some]
    rw [if_pos (by rw [strOfNums_size]; omega)]
    exact ⟨_, rfl, by rw [ByteArray.size_append, strOfNums_size]; omega⟩

/-- bytes as a text -/
def bs (l : List UInt8) : ByteArray := ⟨l.toArray⟩
theorem bs_append (a b : List UInt8) : bs a ++ bs b = bs (a ++ b) := by
  apply ByteArray.ext
  rw [ByteArray.data_append]
  simp [bs]
theorem bs_size (a : List UInt8) : (bs a).size = a.length := by simp [bs, ByteArray.size]
theorem bs_data (s : ByteArray) : bs s.data.toList = s := by
  apply ByteArray.ext
  simp [bs]
theorem bs_list (a : List UInt8) : (bs a).data.toList = a := by simp [bs]
theorem bs_extract (a : List UInt8) (i j : Nat) : (bs a).extract i j = bs ((a.drop i).take (j - i)) := by
  apply ByteArray.ext
  rw [ByteArray.data_extract]
  simp [bs, List.extract_eq_take_drop]
theorem bt_bs (a : List UInt8) (i : Int) (h : i.toNat < a.length) : bt (bs a) i = ((a[i.toNat]).toNat : Int) := by
  unfold bt
  rw [dif_pos (by rw [bs_size]; exact h)]
  rfl
/-- the sum's two parts over a text's bytes -/
def g2 : List UInt8 → Int → Int → Int
  | [], a, b => 256 * b + a
  | x :: r, a, b => g2 r ((a + (x.toNat : Int)) % 255) ((b + (a + (x.toNat : Int)) % 255) % 255)
theorem sum_nums {a b v : Int} (h0 : 0 ≤ a) (h1 : a ≤ 254) (h2 : 0 ≤ b) (h3 : b ≤ 254) (h4 : 0 ≤ v) (h5 : v ≤ 255) : wrap64 v = v ∧ wrap64 (a + v) = a + v ∧ Int.tmod (a + v) 255 = (a + v) % 255 ∧ wrap64 (b + (a + v) % 255) = b + (a + v) % 255 ∧ Int.tmod (b + (a + v) % 255) 255 = (b + (a + v) % 255) % 255 ∧ 0 ≤ (a + v) % 255 ∧ (a + v) % 255 ≤ 254 ∧ 0 ≤ (b + (a + v) % 255) % 255 ∧ (b + (a + v) % 255) % 255 ≤ 254 :=
  ⟨wrap_small (by omega) (by omega), wrap_small (by omega) (by omega), tmod_pos (by omega), wrap_small (by omega) (by omega), tmod_pos (by omega), by omega, by omega, by omega, by omega⟩
theorem sum_next (i : Nat) (h : i ≤ 140737488351232) : wrap64 ((i : Int) + 1) = ((i + 1 : Nat) : Int) := by
  rw [wrap_small (by omega) (by omega)]
  rfl
theorem sum_val (L : List UInt8) (hn : L.length ≤ 140737488351232) (d : Nat) : ∀ (k : Nat) (a b : Int) (i : Nat), i ≤ L.length → L.length - i = d → 0 ≤ a → a ≤ 254 → 0 ≤ b → b ≤ 254 → d < k →
    impl_SumOf.l0 k (bs L) a b ((bs L).size : Int) (i : Int) = some (g2 (L.drop i) a b) := by
  induction d with
  | zero =>
    intro k a b i h1 hd ha0 ha1 hb0 hb1 hk
    obtain ⟨k, rfl⟩ : ∃ m, k = m + 1 := ⟨k - 1, by omega⟩
    rw [List.drop_eq_nil_of_le (by omega)]
    simp only [impl_SumOf.l0, g2]; rw [if_neg (by rw [bs_size]; omega), wrap_small (x := 256 * b) (by omega) (by omega), wrap_small (by omega) (by omega)]
  | succ d ih =>
    intro k a b i h1 hd ha0 ha1 hb0 hb1 hk
    obtain ⟨k, rfl⟩ : ∃ m, k = m + 1 := ⟨k - 1, by omega⟩
    have hi : i < L.length := by omega
    have hd2 : L.length - (i + 1) = d := by omega
    have hi3 : i ≤ 140737488351232 := by omega
    have hbt : bt (bs L) (i : Int) = ((L[i]).toNat : Int) := bt_bs L (i : Int) hi
    have hr := bt_range (bs L) (i : Int)
    rw [hbt] at hr
    obtain ⟨v, hv⟩ : ∃ v : Int, v = ((L[i]).toNat : Int) := ⟨_, rfl⟩
    rw [← hv] at hr hbt
    obtain ⟨e1, e2, e3, e4, e5, r1, r2, r3, r4⟩ := sum_nums ha0 ha1 hb0 hb1 hr.1 hr.2
    have e6 : wrap64 ((i : Int) + 1) = ((i + 1 : Nat) : Int) := sum_next i hi3
    have hlt : (i : Int) < ((bs L).size : Int) := by rw [bs_size]; exact Int.ofNat_lt.2 hi
    have h3 := ih k ((a + v) % 255) ((b + (a + v) % 255) % 255) (i + 1) hi hd2 r1 r2 r3 r4 (Nat.lt_of_succ_lt_succ hk)
    simp only [impl_SumOf.l0]
    rw [if_pos hlt, if_pos (Int.natCast_nonneg i), if_pos hlt, hbt, e1, e2, e3, e4, e5, e6, h3, List.drop_eq_getElem_cons hi, g2, hv]
theorem sum_g2 (L : List UInt8) (hn : L.length ≤ 140737488351232) (k : Nat) (hk : L.length < k) : impl_SumOf.f k (bs L) = some (g2 L 0 0) ∧ spec_SumOf.f k (bs L) = some (g2 L 0 0) ∧ 0 ≤ g2 L 0 0 ∧ g2 L 0 0 ≤ 65278 := by
  have h1 : impl_SumOf.f k (bs L) = some (g2 L 0 0) := sum_val L hn L.length k 0 0 0 (by omega) (by omega) (by omega) (by omega) (by omega) (by omega) hk
  obtain ⟨r, hs, hi, hr0, hr1⟩ := sum_some (bs L) (by rw [bs_size]; exact hn) k (by rw [bs_size]; exact hk)
  obtain rfl := Option.some.inj (hi.symm.trans h1)
  exact ⟨h1, hs, hr0, hr1⟩
/-- the frame of a text -/
def frOf (L : List UInt8) : List UInt8 := [UInt8.ofNat (((L.length : Int) % 256).toNat)] ++ L ++ [UInt8.ofNat ((g2 L 0 0 / 256 % 256).toNat), UInt8.ofNat ((g2 L 0 0 % 256).toNat)]
theorem frame_g2 (L : List UInt8) (hn : L.length ≤ 140737488351232) (k : Nat) (hk : L.length < k) : impl_frame.f k (bs L) = some (bs (frOf L)) ∧ spec_l1Frame.f k (bs L) = some (bs (frOf L)) := by
  obtain ⟨hi, hs, hr0, hr1⟩ := sum_g2 L hn k hk
  have e : ∀ r : Int, (strOfNums [(L.length : Int) % 256] ++ bs L) ++ strOfNums [r / 256 % 256, r % 256] = bs ([UInt8.ofNat (((L.length : Int) % 256).toNat)] ++ L ++ [UInt8.ofNat ((r / 256 % 256).toNat), UInt8.ofNat ((r % 256).toNat)]) := by
    intro r
    rw [show strOfNums [(L.length : Int) % 256] = bs [UInt8.ofNat (((L.length : Int) % 256).toNat)] from rfl, show strOfNums [r / 256 % 256, r % 256] = bs [UInt8.ofNat ((r / 256 % 256).toNat), UInt8.ofNat ((r % 256).toNat)] from rfl, bs_append, bs_append]
  obtain ⟨r, hr⟩ : ∃ r, r = g2 L 0 0 := ⟨_, rfl⟩
  unfold frOf
  rw [← hr] at hi hs hr0 hr1 ⊢
  have e1 : Int.tdiv r 256 = r / 256 := Int.tdiv_eq_ediv_of_nonneg hr0
  have e2 : Int.tmod r 256 = r % 256 := tmod_pos hr0
  have e3 : wrap64 (r / 256) = r / 256 := wrap_small (by omega) (by omega)
  have e4 : r % 256 % 256 = r % 256 := by omega
  rw [← e r]
  refine ⟨?_, ?_⟩
  · unfold impl_frame.f
    rw [hi]; simp only [Option.bind_some]
    rw [e1, e2, e3, e4, if_pos (by rw [strOfNums_size]; simp [bs_size]; omega), if_pos (by rw [strOfNums_size]; simp [ByteArray.size_append, strOfNums_size, bs_size]; omega), bs_size]
  · unfold spec_l1Frame.f
    rw [hs]; simp only [Option.bind_some]
    rw [if_pos (by rw [strOfNums_size]; simp [bs_size]; omega), if_pos (by rw [strOfNums_size]; simp [ByteArray.size_append, strOfNums_size, bs_size]; omega), bs_size]
theorem frOf_length (L : List UInt8) : (frOf L).length = L.length + 3 := by
  simp [frOf]
theorem take_frame (L M : List UInt8) (hn : L.length ≤ 60) (hm : M.length ≤ 100) (k : Nat) (hk : 100 < k) : impl_TakeFrame.f k (bs (frOf L) ++ bs M) = some (bs L, ((bs (frOf L)).size : Int), true) := by
  obtain ⟨k, rfl⟩ : ∃ m, k = m + 1 := ⟨k - 1, by omega⟩
  rw [bs_append]
  obtain ⟨W, hW⟩ : ∃ W, W = frOf L ++ M := ⟨_, rfl⟩
  have hWl : W.length = L.length + 3 + M.length := by rw [hW, List.length_append, frOf_length]
  have hb : bt (bs W) 0 = (L.length : Int) := by
    rw [bt_bs W 0 (by show 0 < W.length; omega)]
    subst hW
    show (((UInt8.ofNat (((L.length : Int) % 256).toNat)).toNat : Nat) : Int) = _
    rw [UInt8.toNat_ofNat']
    omega
  have x1 : (bs W).extract 1 (1 + (L.length : Int)).toNat = bs L := by
    rw [bs_extract, hW]
    congr 1
    rw [show (1 + (L.length : Int)).toNat - 1 = L.length by omega]
    simp [frOf]
  have x2 : (bs W).extract 0 ((L.length : Int) + 3).toNat = bs (frOf L) := by
    rw [bs_extract, hW]
    congr 1
    rw [show ((L.length : Int) + 3).toNat - 0 = (frOf L).length by rw [frOf_length]; omega, List.drop_zero, List.take_left]
  have hs : (bs W).size = L.length + 3 + M.length := by rw [bs_size, hWl]
  have e1 : wrap64 (L.length : Int) = (L.length : Int) := wrap_small (by omega) (by omega)
  have e2 : wrap64 ((L.length : Int) + 3) = (L.length : Int) + 3 := wrap_small (by omega) (by omega)
  have e4 : wrap64 (1 + (L.length : Int)) = 1 + (L.length : Int) := wrap_small (by omega) (by omega)
  have hl : (bs W).toList ≠ [] := by
    intro h
    rw [← List.length_eq_zero_iff, ByteArray.toList_eq, data_length] at h
    omega
  rw [← hW]
  unfold impl_TakeFrame.f
  rw [if_neg hl, if_pos (by omega), hb, e1, if_neg (by omega), e2, decide_eq_false (by omega : ¬ ((bs W).size : Int) < (L.length : Int) + 3)]
  simp only [impl_TakeFrame.j0, Bool.false_eq_true, if_false]
  rw [if_pos (by omega), hb, e1, e2, e4, if_pos (by omega), if_pos (by omega), x1, x2, (frame_g2 L (by omega) k (by omega)).1]; simp only [Option.bind_some]
  rw [if_pos (by omega), if_pos (by omega), if_pos (by first | trivial | rfl), bs_size, frOf_length] <;> simp
/-- the sum of a text's bytes -/
def tot8 : List UInt8 → Int
  | [] => 0
  | x :: r => (x.toNat : Int) + tot8 r
theorem g2_low (L : List UInt8) : ∀ (a b : Int), 0 ≤ a → a ≤ 254 → g2 L a b % 256 = (a + tot8 L) % 255 := by
  induction L with
  | nil => intro a b h0 h1; simp only [g2, tot8]; omega
  | cons x r ih =>
    intro a b h0 h1
    simp only [g2, tot8]
    rw [ih _ _ (by omega) (by omega)]
    omega
theorem tot8_set (L : List UInt8) : ∀ (i : Nat) (b : UInt8), i < L.length → tot8 (L.set i b) = tot8 L - ((L.getD i 0).toNat : Int) + (b.toNat : Int) := by
  induction L with
  | nil => intro i b h; simp at h
  | cons x r ih =>
    intro i b h
    cases i with
    | zero => simp only [List.set_cons_zero, tot8, List.getD_cons_zero]; omega
    | succ i =>
      simp only [List.set_cons_succ, tot8, List.getD_cons_succ]
      rw [ih i b (by simpa using h)]
      omega
theorem g2_set (L : List UInt8) : ∀ (i : Nat) (v : UInt8) (a b : Int), i < L.length → ((L.getD i 0).toNat : Int) % 255 = (v.toNat : Int) % 255 → g2 (L.set i v) a b = g2 L a b := by
  induction L with
  | nil => intro i v a b h; simp at h
  | cons x r ih =>
    intro i v a b h e
    cases i with
    | zero =>
      rw [List.getD_cons_zero] at e
      simp only [List.set_cons_zero, g2]
      rw [show (a + (v.toNat : Int)) % 255 = (a + (x.toNat : Int)) % 255 by omega]
    | succ i =>
      rw [List.getD_cons_succ] at e
      simp only [List.set_cons_succ, g2]
      exact ih i v _ _ (by simpa using h) e
theorem g2_same (L : List UInt8) (i : Nat) (v : UInt8) (h : i < L.length) : decide (g2 (L.set i v) 0 0 = g2 L 0 0) = frSame (L.getD i 0) v := by
  have h1 := (L.getD i 0).toNat_lt
  have h2 := v.toNat_lt
  have e : ((L.getD i 0).toNat : Int) % 255 = (v.toNat : Int) % 255 ↔ frSame (L.getD i 0) v = true := by
    unfold frSame
    rw [Bool.or_eq_true, Bool.and_eq_true, decide_eq_true_eq, decide_eq_true_eq, decide_eq_true_eq]
    omega
  rw [Bool.eq_iff_iff, ← e, decide_eq_true_eq]
  constructor
  · intro hh
    have a1 := g2_low (L.set i v) 0 0 (by omega) (by omega)
    have a2 := g2_low L 0 0 (by omega) (by omega)
    rw [hh, tot8_set L i v h] at a1
    omega
  · intro hh
    exact g2_set L i v 0 0 h hh
theorem number_l0 {l : List Int} (hb : BytesIn l) (hn : l.length ≤ 1048576) (d : Nat) : ∀ (k : Nat) (x : Int) (i : Nat), i ≤ l.length → l.length - i = d → 0 ≤ x → x ≤ 1000002 → d < k → ∃ z, laws_numberOf.l0 k x l (l.length : Int) (i : Int) = some z ∧ 0 ≤ z ∧ z ≤ 1000002 := by
  induction d with
  | zero =>
    intro k x i h1 hd h0 hx hk
    obtain ⟨k, rfl⟩ : ∃ m, k = m + 1 := ⟨k - 1, by omega⟩
    refine ⟨x, ?_, h0, hx⟩
    simp only [laws_numberOf.l0]; rw [if_neg (by omega)]
  | succ d ih =>
    intro k x i h1 hd h0 hx hk
    obtain ⟨k, rfl⟩ : ∃ m, k = m + 1 := ⟨k - 1, by omega⟩
    have hr := rd_byte hb (i : Int)
    obtain ⟨z, hz⟩ := ih k ((31 * x + rd l i) % 1000003) (i + 1) (by omega) (by omega) (by omega) (by omega) (by omega)
    refine ⟨z, ?_, hz.2⟩
    simp only [laws_numberOf.l0]
    rw [if_pos (by omega), if_pos (by omega), if_pos (by omega), wrap_small (x := 31 * x) (by omega) (by omega), wrap_small (x := rd l i) (by omega) (by omega), wrap_small (x := 31 * x + rd l i) (by omega) (by omega), tmod_pos (by omega), wrap_small (x := (i : Int) + 1) (by omega) (by omega)]
    exact hz.1
theorem fb_g2 (L : List UInt8) (hn : L.length ≤ 1000) (k : Nat) (hk : 1000 < k) : ∃ p, impl_FrameBytes.f k (bs L) = some p ∧ spec_FrameBytes.f k (bs L) = some p ∧ (p.2 = true → L.length ≤ 60 ∧ p.1 = bs (frOf L)) := by
  obtain ⟨h1, h2⟩ := frame_g2 L (by omega) k (by omega)
  unfold impl_FrameBytes.f spec_FrameBytes.f
  by_cases c : ((bs L).size : Int) > 60
  · rw [if_pos c, if_pos c]
    exact ⟨_, rfl, rfl, fun h => by cases h⟩
  · rw [if_neg c, if_neg c, h1, h2]
    rw [bs_size] at c
    exact ⟨_, rfl, rfl, fun _ => ⟨by omega, rfl⟩⟩
theorem mid_true {l : List Int} (hb : BytesIn l) (hl : l.length ≤ 1048576) (L : List UInt8) (hn : L.length ≤ 60) (k : Nat) (hk : 1048576 + 1000 < k) : frMid k l (bs L) (bs (frOf L)) (g2 L 0 0) = some true := by
  unfold frMid
  rw [if_pos (by rw [bs_size, frOf_length]; omega), show (⟨#[109, 111, 114, 101]⟩ : ByteArray) = bs [109, 111, 114, 101] from rfl, take_frame L [109, 111, 114, 101] hn (by simp) k (by omega)]
  simp only [Option.bind_some, if_true]
  by_cases c : 0 < (bs L).size
  · rw [if_pos c]
    obtain ⟨z, hz, hz0, hz1⟩ := number_l0 hb hl l.length k 0 0 (by omega) (by omega) (by omega) (by omega) (by omega)
    rw [show laws_numberOf.f k l = some z from hz]; simp only [Option.bind_some]
    rw [if_pos (by omega)]
    have hs : (bs L).size = L.length := bs_size L
    have hi : z.toNat % (bs L).size < L.length := by rw [hs] at c ⊢; exact Nat.mod_lt _ c
    unfold frNew
    rw [bs_list]
    rw [show (⟨(L.set (z.toNat % (bs L).size) (UInt8.ofNat (z.toNat / (bs L).size % 256))).toArray⟩ : ByteArray) = bs (L.set (z.toNat % (bs L).size) (UInt8.ofNat (z.toNat / (bs L).size % 256))) from rfl]
    rw [(sum_g2 (L.set (z.toNat % (bs L).size) (UInt8.ofNat (z.toNat / (bs L).size % 256))) (by rw [List.length_set]; omega) k (by rw [List.length_set]; omega)).1]
    simp only [Option.bind_some]
    rw [if_pos (g2_same L _ _ hi)]
  · rw [if_neg c]

/-- THE PURE STATEMENT of the law. -/
def FnFrames_Pure : Prop := ∀ (l0 : (List Int)) (l1 : (List Int)), (l0.length ≤ 9223372036854775807 ∧ ∀ y ∈ l0, (Lit.int .u8 y).wf = true) → l0.length * 1 ≤ 140737488351232 → (l1.length ≤ 9223372036854775807 ∧ ∀ y ∈ l1, (Lit.int .u8 y).wf = true) → l1.length * 1 ≤ 140737488351232 → ∃ k, laws_FnFrames.f k l0 l1 = some true

theorem FnFrames : FnFrames_Pure := by
  intro l0 l1 hb0 hz0 hb1 hz1
  obtain ⟨K, hK⟩ : ∃ K : Nat, K = 2000000 := ⟨_, rfl⟩
  refine ⟨K, ?_⟩
  unfold laws_FnFrames.f
  rw [wrap_small (x := (l0.length : Int) + (l1.length : Int)) (by omega) (by omega)]
  by_cases c : (l0.length : Int) + (l1.length : Int) > 1048576
  · rw [if_pos c]
  rw [if_neg c]
  have B0 := bytesIn_of hb0.2
  have B1 := bytesIn_of hb1.2
  obtain ⟨s, hs, hss⟩ := drawframe_b B0 K (by omega)
  obtain ⟨L, rfl⟩ : ∃ L, s = bs L := ⟨s.data.toList, (bs_data s).symm⟩
  rw [bs_size] at hss
  obtain ⟨p, hp1, hp2, hp3⟩ := fb_g2 L (by omega) K (by omega)
  obtain ⟨m1, m2, _, _⟩ := sum_g2 L (by omega) K (by omega)
  rw [hs]; simp only [Option.bind_some]
  rw [hp1, hp2, m1, m2]; simp only [Option.bind_some, and_self, if_true]
  have hmid : (if p.2 = true then frMid K l1 (bs L) p.1 (g2 L 0 0) else some true) = some true := by
    by_cases h : p.2 = true
    · obtain ⟨h1, h2⟩ := hp3 h
      rw [if_pos h, h2]
      exact mid_true B1 (by omega) L h1 K (by omega)
    · rw [if_neg h]
  rw [hmid]; simp only [Option.bind_some]
  obtain ⟨u, hu, hus⟩ := drawtake_b B1 K (by omega)
  rw [hu]; simp only [Option.bind_some]
  obtain ⟨r, hr1, hr2, _⟩ := take_both u (by omega) K (by omega)
  rw [hr1, hr2]; simp only [Option.bind_some, if_true]

end Go.Proofs.Ytggolfbojjjafaa.Pure
