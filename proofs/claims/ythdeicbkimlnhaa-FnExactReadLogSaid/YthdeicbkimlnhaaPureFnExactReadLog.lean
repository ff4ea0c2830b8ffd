/- laws.FnExactReadLog returns true at every input: the log that the program reads out of a text is what the reference reads. No condition. -/
import Derived.Test.YthdeicbkimlnhaaExFnExactReadLog
set_option linter.unusedVariables false
set_option linter.unusedSimpArgs false
namespace Go.Proofs.Ythdeicbkimlnhaa.Pure
open Go Go.RowKit Go.Proofs.Ythdeicbkimlnhaa.PFnExactReadLog Go.Proofs.YthdeicbkimlnhaaW.PrintWords Go.Proofs.YthdeicbkimlnhaaW.PrintLast Go.Proofs.YthdeicbkimlnhaaW.PrintMore Go.Proofs.YthdeicbkimlnhaaL
theorem spec_l01In_of (x lo hi : Int) : spec_l01In.f x lo hi = some (decide (lo ≤ x ∧ x ≤ hi)) := by
  unfold spec_l01In.f
  rw [ite_some]; congr 1; rw [Bool.eq_iff_iff]
  by_cases h : x ≥ lo <;> simp [h] <;> omega
theorem item_ok (a b c d : Int) : ∃ r : Bool, spec_ItemOk.f a b c d = some r ∧ (r = true → 0 ≤ d ∧ d ≤ 1000000000) := by
  unfold spec_ItemOk.f spec_HalfOk.f
  simp only [spec_l01In_of, Option.bind_some]
  by_cases h1 : a = 1
  · rw [if_pos h1]
    by_cases h2 : 0 ≤ b ∧ b ≤ 4294967295
    · rw [if_pos (by simpa using h2)]
      by_cases h3 : 0 ≤ c ∧ c ≤ 4294967295
      · rw [if_pos (by simpa using h3)]; exact ⟨_, rfl, fun h => by have := beq_iff_eq.1 h; omega⟩
      · rw [if_neg (by simpa using h3)]; exact ⟨_, rfl, fun h => by cases h⟩
    · rw [if_neg (by simpa using h2)]; exact ⟨_, rfl, fun h => by cases h⟩
  · rw [if_neg h1]
    by_cases h2 : a = 2
    · rw [if_pos h2]
      by_cases h3 : 1 ≤ d ∧ d ≤ 1000000000
      · rw [if_pos (by simpa using h3)]
        by_cases h4 : b = 0
        · rw [if_pos h4]; exact ⟨_, rfl, fun _ => by omega⟩
        · rw [if_neg h4]; exact ⟨_, rfl, fun h => by cases h⟩
      · rw [if_neg (by simpa using h3)]; exact ⟨_, rfl, fun h => by cases h⟩
    · rw [if_neg h2]; exact ⟨_, rfl, fun h => by cases h⟩
/-! A frame's text: the program's and the reference's come to the same. -/
theorem wraps_i64 (n : Int) (h₀ : 0 ≤ n) (h₁ : n < 2 ^ 63) : IntKind.i64.wrap n = n := by rw [IntKind.wrap_i64]; omega
theorem wraps_u32 (n : Int) (h₀ : 0 ≤ n) (h₁ : n < 2 ^ 32) : IntKind.u32.wrap n = n := by rw [IntKind.wrap_u32]; omega
theorem and127 {x : Int} (h₀ : 0 ≤ x) (h₁ : x < 9223372036854775808) : Go.bits .and .i64 x 127 = x % 128 := bits_mask .i64 63 (by decide) wraps_i64 7 (by decide) x h₀ h₁
theorem and1 {x : Int} (h₀ : 0 ≤ x) (h₁ : x < 4294967296) : Go.bits .and .u32 x 1 = x % 2 := bits_mask .u32 32 (by decide) wraps_u32 1 (by decide) x h₀ h₁
theorem or_comm' (k : IntKind) (a b : Int) : Go.bits .or k a b = Go.bits .or k b a := by simp only [Go.bits]; rw [BitVec.or_comm]
theorem or128 {y : Int} (h₀ : 0 ≤ y) (h₁ : y < 128) : Go.bits .or .i64 y 128 = y + 128 := by
  rw [or_comm', bits_join .i64 63 (by decide) wraps_i64 7 128 y (by decide) (by decide) (by decide) h₀ h₁ (by omega)]; omega
theorem xor_in (a b : Int) : 0 ≤ Go.bits .xor .u32 a b ∧ Go.bits .xor .u32 a b < 4294967296 := by
  simp only [Go.bits]; rw [IntKind.wrap_u32]; omega
theorem var_ev : ∀ (d : Nat) (n : Int) (out : List Int), 0 ≤ n → n < 128 ^ (d + 1) → n ≤ 1000000000 → out.length + d ≤ 1000 →
    ∃ v, Ev (fun k => spec_l01Var.l0 k n out) v ∧ Ev (fun k => impl_VarText.l0 k n out) (v, true) ∧ v.size ≤ out.length + d + 1 := by
  intro d
  induction d with
  | zero =>
    intro n out h0 hd h1 hl
    refine ⟨strOfNums (out ++ [n % 256]), ?_, ?_, by rw [strOfNums_size]; simp⟩
    · refine Ev.step (fun _ => rfl) ?_
      simp only [spec_l01Var.l0]
      exact Ev.neg (by omega) (Ev.pos (by omega) (Ev.now _))
    · refine Ev.step (fun _ => rfl) ?_
      simp only [impl_VarText.l0]
      exact Ev.neg (by omega) (Ev.pos (by omega) (Ev.now _))
  | succ d ih =>
    intro n out h0 hd h1 hl
    by_cases h : n > 127
    · have hp : (128 : Int) ^ (d + 1 + 1) = 128 ^ (d + 1) * 128 := Int.pow_succ _ _
      rw [hp] at hd
      obtain ⟨v, e1, e2, hs⟩ := ih (n / 128) (out ++ [(n % 128 + 128) % 256]) (by omega) (by omega) (by omega) (by simp; omega)
      refine ⟨v, ?_, ?_, by simp at hs; omega⟩
      · refine Ev.step (fun _ => rfl) ?_
        simp only [spec_l01Var.l0]
        refine Ev.pos h (Ev.pos (by omega) ?_)
        rw [Int.tdiv_eq_ediv_of_nonneg h0, Int.tmod_eq_emod_of_nonneg h0, w64 (x := n / 128) (by omega) (by omega), w64 (x := n % 128 + 128) (by omega) (by omega)]
        exact e1
      · refine Ev.step (fun _ => rfl) ?_
        simp only [impl_VarText.l0]
        refine Ev.pos h (Ev.pos (by omega) ?_)
        rw [and127 h0 (by omega), or128 (by omega) (by omega)]
        exact e2
    · refine ⟨strOfNums (out ++ [n % 256]), ?_, ?_, by rw [strOfNums_size]; simp <;> omega⟩
      · refine Ev.step (fun _ => rfl) ?_
        simp only [spec_l01Var.l0]
        exact Ev.neg h (Ev.pos (by omega) (Ev.now _))
      · refine Ev.step (fun _ => rfl) ?_
        simp only [impl_VarText.l0]
        exact Ev.neg h (Ev.pos (by omega) (Ev.now _))
theorem within_eq (x lo hi : Int) : impl_within.f x lo hi = spec_l01In.f x lo hi := rfl
theorem vars_ev (n : Int) (h0 : 0 ≤ n) (h1 : n ≤ 1000000000) : ∃ v, Ev (fun k => spec_l01Var.f k n) v ∧ Ev (fun k => impl_VarText.f k n) (v, true) ∧ v.size ≤ 5 := by
  obtain ⟨v, e1, e2, hs⟩ := var_ev 4 n [] h0 (by omega) h1 (by simp)
  refine ⟨v, e1, ?_, by simpa using hs⟩
  unfold impl_VarText.f
  refine Ev.bindc ((within_eq _ _ _).trans (spec_l01In_of _ _ _)) (Ev.pos (by simp; omega) e2)
theorem sum_eq : ∀ k : Nat, (∀ (x0 : Int) (x1 : ByteArray) (x5 : Int), 0 ≤ x0 → x0 < 4294967296 → impl_SumMore.l0 k x0 x1 x5 = spec_SumMore.l0 k x0 x1 x5) ∧ ∀ (x0 : Int) (x1 : ByteArray) (x5 x6 : Int), 0 ≤ x0 → x0 < 4294967296 → impl_SumMore.l1 k x0 x1 x5 x6 = spec_SumMore.l1 k x0 x1 x5 x6
  | 0 => ⟨fun _ _ _ _ _ => by simp only [impl_SumMore.l0, spec_SumMore.l0], fun _ _ _ _ _ _ => by simp only [impl_SumMore.l1, spec_SumMore.l1]⟩
  | k + 1 => by
    obtain ⟨i0, i1⟩ := sum_eq k
    refine ⟨fun x0 x1 x5 h0 h1 => ?_, fun x0 x1 x5 x6 h0 h1 => ?_⟩
    · simp only [impl_SumMore.l0, spec_SumMore.l0]
      rw [i1 _ _ _ _ (xor_in _ _).1 (xor_in _ _).2]
    · simp only [impl_SumMore.l1, spec_SumMore.l1]
      rw [and1 h0 h1, Int.tmod_eq_emod_of_nonneg h0, Int.tdiv_eq_ediv_of_nonneg h0, show x0 / 2 % 4294967296 = x0 / 2 by omega, i1 _ _ _ _ (xor_in _ _).1 (xor_in _ _).2, i1 (x0 / 2) _ _ _ (by omega) (by omega), i0 x0 _ _ h0 h1]
theorem sum_in_ev (s : ByteArray) (i : Nat) (hn : s.size ≤ 100000000) (hi : i < s.size) (hx : ∀ x : Int, 0 ≤ x → x < 4294967296 → ∃ v : Int, Ev (fun k => spec_SumMore.l0 k x s ((i + 1 : Nat) : Int)) v ∧ 0 ≤ v ∧ v < 4294967296) :
    ∀ (d j : Nat) (x : Int), 8 - j = d → j ≤ 8 → 0 ≤ x → x < 4294967296 → ∃ v : Int, Ev (fun k => spec_SumMore.l1 k x s (i : Int) (j : Int)) v ∧ 0 ≤ v ∧ v < 4294967296 := by
  intro d
  induction d with
  | zero =>
    intro j x hd hj h0 h1
    obtain ⟨v, e, hv⟩ := hx x h0 h1
    refine ⟨v, ?_, hv⟩
    refine Ev.step (fun _ => rfl) ?_
    simp only [spec_SumMore.l1]
    refine Ev.neg (by omega) ?_
    rw [w64 (by omega) (by omega), show (i : Int) + 1 = ((i + 1 : Nat) : Int) by omega]
    exact e
  | succ d ih =>
    intro j x hd hj h0 h1
    by_cases h : Int.tmod x 2 = 1
    · obtain ⟨v, e, hv⟩ := ih (j + 1) (Go.bits .xor .u32 ((Int.tdiv x 2) % 4294967296) 3558460437) (by omega) (by omega) (xor_in _ _).1 (xor_in _ _).2
      refine ⟨v, ?_, hv⟩
      refine Ev.step (fun _ => rfl) ?_
      simp only [spec_SumMore.l1]
      refine Ev.pos (by omega) (Ev.pos h ?_)
      rw [w64 (by omega) (by omega), show (j : Int) + 1 = ((j + 1 : Nat) : Int) by omega]
      exact e
    · obtain ⟨v, e, hv⟩ := ih (j + 1) ((Int.tdiv x 2) % 4294967296) (by omega) (by omega) (by omega) (by omega)
      refine ⟨v, ?_, hv⟩
      refine Ev.step (fun _ => rfl) ?_
      simp only [spec_SumMore.l1]
      refine Ev.pos (by omega) (Ev.neg h ?_)
      rw [w64 (by omega) (by omega), show (j : Int) + 1 = ((j + 1 : Nat) : Int) by omega]
      exact e
theorem sum_ev (s : ByteArray) (hn : s.size ≤ 100000000) : ∀ (d i : Nat) (x : Int), s.size - i = d → i ≤ s.size → 0 ≤ x → x < 4294967296 → ∃ v : Int, Ev (fun k => spec_SumMore.l0 k x s (i : Int)) v ∧ 0 ≤ v ∧ v < 4294967296 := by
  intro d
  induction d with
  | zero =>
    intro i x hd hi h0 h1
    refine ⟨x, ?_, h0, h1⟩
    refine Ev.step (fun _ => rfl) ?_
    simp only [spec_SumMore.l0]
    exact Ev.neg (by omega) (Ev.now _)
  | succ d ih =>
    intro i x hd hi h0 h1
    obtain ⟨v, e, hv⟩ := sum_in_ev s i hn (by omega) (fun y a b => ih (i + 1) y (by omega) (by omega) a b) 8 0 (Go.bits .xor .u32 x ((bt s (i : Int)) % 4294967296)) rfl (by omega) (xor_in _ _).1 (xor_in _ _).2
    refine ⟨v, ?_, hv⟩
    refine Ev.step (fun _ => rfl) ?_
    simp only [spec_SumMore.l0]
    exact Ev.pos (by omega) (Ev.pos (by omega) e)
theorem sumOf_ev (s : ByteArray) (hn : s.size ≤ 100000000) : ∃ v : Int, Ev (fun k => spec_SumOf.f k s) v ∧ Ev (fun k => impl_SumOf.f k s) v ∧ 0 ≤ v ∧ v < 4294967296 := by
  obtain ⟨v, e, h0, h1⟩ := sum_ev s hn s.size 0 4294967295 rfl (by omega) (by omega) (by omega)
  have e' : Ev (fun k => impl_SumMore.f k 4294967295 s) v := by
    unfold impl_SumMore.f
    exact Ev.congr (fun k => (sum_eq k).1 _ _ _ (by omega) (by omega)) e
  exact ⟨v, Ev.bind (show Ev (fun k => spec_SumMore.f k 4294967295 s) v from e) (Ev.now _), Ev.bind e' (Ev.now _), h0, h1⟩
theorem isPid_of (a : Int) : impl_isPid.f a = spec_l01In.f a 0 2 := by
  show (spec_l01In.f a 0 2).bind (fun t => some t) = _
  cases spec_l01In.f a 0 2 <;> rfl
theorem fj0_eq (k : Nat) (b : Bool) (x0 x1 x2 x3 x4 x5 x6 : Int) : impl_FrameOk.j0 k b x0 x1 x2 x3 x4 x5 x6 = spec_FrameOk.j0 k b x0 x1 x2 x3 x4 x5 x6 := by
  cases k with
  | zero => simp only [impl_FrameOk.j0, spec_FrameOk.j0]
  | succ k => simp only [impl_FrameOk.j0, spec_FrameOk.j0]; rfl
theorem frameOk_eq (k : Nat) (x0 x1 x2 x3 x4 x5 x6 : Int) : impl_FrameOk.f k x0 x1 x2 x3 x4 x5 x6 = spec_FrameOk.f k x0 x1 x2 x3 x4 x5 x6 := by
  unfold impl_FrameOk.f spec_FrameOk.f
  simp only [isPid_of, fj0_eq, within_eq]
theorem frameOk_ev (x0 x1 x2 x3 x4 x5 x6 : Int) : ∃ b : Bool, Ev (fun k => spec_FrameOk.f k x0 x1 x2 x3 x4 x5 x6) b ∧ (b = true → (0 ≤ x1 ∧ x1 ≤ 2) ∧ (1 ≤ x2 ∧ x2 ≤ 1000000000) ∧ 0 ≤ x6 ∧ x6 ≤ 1000000000) := by
  unfold spec_FrameOk.f
  simp only [spec_l01In_of, Option.bind_some]
  by_cases h1 : 0 ≤ x1 ∧ x1 ≤ 2
  · by_cases h2 : 1 ≤ x2 ∧ x2 ≤ 1000000000
    · by_cases h3 : x0 = 1
      · obtain ⟨r, hr, hr'⟩ := item_ok x3 x4 x5 x6
        refine ⟨r, Ev.pos (by simpa using h1) (Ev.step (fun _ => rfl) ?_), fun h => ⟨h1, h2, hr' h⟩⟩
        simp only [spec_FrameOk.j0]
        exact Ev.neg (by simp; omega) (Ev.pos h3 (Ev.bindc hr (Ev.now _)))
      · by_cases h4 : x0 = 2
        · refine ⟨(x3 == 0 && (x4 == 0 && (x5 == 0 && (x6 == 0)))), Ev.pos (by simpa using h1) (Ev.step (fun _ => rfl) ?_), fun h => ⟨h1, h2, ?_⟩⟩
          · simp only [spec_FrameOk.j0]
            exact Ev.neg (by simp; omega) (Ev.neg h3 (Ev.pos h4 (Ev.now _)))
          · simp at h; omega
        · refine ⟨false, Ev.pos (by simpa using h1) (Ev.step (fun _ => rfl) ?_), fun h => by cases h⟩
          simp only [spec_FrameOk.j0]
          exact Ev.neg (by simp; omega) (Ev.neg h3 (Ev.neg h4 (Ev.now _)))
    · refine ⟨false, Ev.pos (by simpa using h1) (Ev.step (fun _ => rfl) ?_), fun h => by cases h⟩
      simp only [spec_FrameOk.j0]
      exact Ev.pos (by simp; omega) (Ev.now _)
  · refine ⟨false, Ev.neg (by simpa using h1) (Ev.step (fun _ => rfl) ?_), fun h => by cases h⟩
    simp only [spec_FrameOk.j0]
    exact Ev.pos (by first | trivial | rfl) (Ev.now _)
/-! Bytes of a text, and the numbers they tell. -/
theorem bt_nat (s : ByteArray) (i : Nat) (h : i < s.size) : bt s (i : Int) = (s[i].toNat : Int) := by simp [bt, h]
theorem str_append (xs ys : List Int) : strOfNums (xs ++ ys) = strOfNums xs ++ strOfNums ys := by
  apply ByteArray.ext; simp [strOfNums]
theorem one_byte (s : ByteArray) (i : Nat) (h : i < s.size) : strOfNums [bt s (i : Int) % 256] = s.extract i (i + 1) := by
  rw [ByteArray.extract_add_one (by omega)]
  have hb : ((s[i].toNat : Int) % 256).toNat = s[i].toNat := by have := s[i].toNat_lt; omega
  apply ByteArray.ext
  simp [strOfNums, bt_nat s i h, hb]
theorem two_bytes (s : ByteArray) (i : Nat) (h : i + 1 < s.size) : strOfNums [bt s (i : Int) % 256, bt s ((i + 1 : Nat) : Int) % 256] = s.extract i (i + 2) := by
  rw [ByteArray.extract_eq_extract_append_extract (i + 1) (by omega) (by omega), ← one_byte s i (by omega), ← one_byte s (i + 1) (by omega), ← str_append]; rfl
theorem four_bytes (s : ByteArray) (i : Nat) (h : i + 3 < s.size) : strOfNums [bt s (i : Int) % 256, bt s ((i + 1 : Nat) : Int) % 256, bt s ((i + 2 : Nat) : Int) % 256, bt s ((i + 3 : Nat) : Int) % 256] = s.extract i (i + 4) := by
  rw [ByteArray.extract_eq_extract_append_extract (i + 2) (by omega) (by omega), ← two_bytes s i (by omega), ← two_bytes s (i + 2) (by omega), ← str_append]; rfl
def fourV (s : ByteArray) (i : Nat) : Int := bt s (i : Int) * 16777216 + bt s ((i + 1 : Nat) : Int) * 65536 + bt s ((i + 2 : Nat) : Int) * 256 + bt s ((i + 3 : Nat) : Int)
def fourS (n : Int) : ByteArray := strOfNums [(n / 16777216) % 256, (n / 65536) % 256, (n / 256) % 256, n % 256]
theorem fourV_in (s : ByteArray) (i : Nat) : 0 ≤ fourV s i ∧ fourV s i < 4294967296 := by
  have h0 := bt_range s (i : Int); have h1 := bt_range s ((i + 1 : Nat) : Int); have h2 := bt_range s ((i + 2 : Nat) : Int); have h3 := bt_range s ((i + 3 : Nat) : Int)
  unfold fourV; omega
theorem four_of (s : ByteArray) (i : Nat) (h : i + 3 < s.size) : fourS (fourV s i) = s.extract i (i + 4) := by
  rw [← four_bytes s i h]
  have h0 := bt_range s (i : Int); have h1 := bt_range s ((i + 1 : Nat) : Int); have h2 := bt_range s ((i + 2 : Nat) : Int); have h3 := bt_range s ((i + 3 : Nat) : Int)
  unfold fourS fourV
  congr 1
  simp only [List.cons.injEq, and_true]
  refine ⟨by omega, by omega, by omega, by omega⟩
theorem impl_fourAt_of (s : ByteArray) (i : Nat) (h : i + 3 < s.size) (hs : s.size ≤ 100000000) : impl_fourAt.f s (i : Int) = some (fourV s i) := by
  have h0 := bt_range s (i : Int); have h1 := bt_range s ((i + 1 : Nat) : Int); have h2 := bt_range s ((i + 2 : Nat) : Int); have h3 := bt_range s ((i + 3 : Nat) : Int)
  unfold impl_fourAt.f fourV
  rw [w64 (x := (i : Int) + 1) (by omega) (by omega), w64 (x := (i : Int) + 2) (by omega) (by omega), w64 (x := (i : Int) + 3) (by omega) (by omega)]
  rw [show (i : Int) + 1 = ((i + 1 : Nat) : Int) by omega, show (i : Int) + 2 = ((i + 2 : Nat) : Int) by omega, show (i : Int) + 3 = ((i + 3 : Nat) : Int) by omega]
  rw [if_pos (by omega), if_pos (by omega), if_pos (by omega), if_pos (by omega), if_pos (by omega), if_pos (by omega), if_pos (by omega), if_pos (by omega)]
  generalize bt s (i : Int) = b0 at *; generalize bt s ((i + 1 : Nat) : Int) = b1 at *; generalize bt s ((i + 2 : Nat) : Int) = b2 at *; generalize bt s ((i + 3 : Nat) : Int) = b3 at *
  rw [w64 (x := b0) (by omega) (by omega), w64 (x := b1) (by omega) (by omega), w64 (x := b2) (by omega) (by omega), w64 (x := b3) (by omega) (by omega)]
  rw [w64 (x := b0 * 16777216) (by omega) (by omega), w64 (x := b1 * 65536) (by omega) (by omega), w64 (x := b2 * 256) (by omega) (by omega)]
  rw [bits_join .i64 63 (by decide) wraps_i64 24 (b0 * 16777216) (b1 * 65536) (by omega) (by omega) (by omega) (by omega) (by omega) (by omega)]
  rw [bits_join .i64 63 (by decide) wraps_i64 16 (b0 * 16777216 + b1 * 65536) (b2 * 256) (by omega) (by omega) (by omega) (by omega) (by omega) (by omega)]
  rw [bits_join .i64 63 (by decide) wraps_i64 8 (b0 * 16777216 + b1 * 65536 + b2 * 256) b3 (by omega) (by omega) (by omega) (by omega) (by omega) (by omega)]
theorem spec_l17Four_of (s : ByteArray) (i : Nat) (h : i + 3 < s.size) (hs : s.size ≤ 100000000) : spec_l17Four.f s (i : Int) = some (fourV s i) := impl_fourAt_of s i h hs
theorem byte_inj {a b : Int} (ha : 0 ≤ a ∧ a < 256) (hb : 0 ≤ b ∧ b < 256) (h : UInt8.ofNat a.toNat = UInt8.ofNat b.toNat) : a = b := by
  have := congrArg UInt8.toNat h
  simp [UInt8.toNat_ofNat'] at this
  omega
theorem fourS_inj {a b : Int} (ha : 0 ≤ a ∧ a < 4294967296) (hb : 0 ≤ b ∧ b < 4294967296) (h : fourS a = fourS b) : a = b := by
  unfold fourS strOfNums at h
  simp only [List.map_cons, List.map_nil, ByteArray.mk.injEq, List.toArray_eq_toArray_eq, List.cons.injEq, and_true] at h
  have e0 := byte_inj (by omega) (by omega) h.1
  have e1 := byte_inj (by omega) (by omega) h.2.1
  have e2 := byte_inj (by omega) (by omega) h.2.2.1
  have e3 := byte_inj (by omega) (by omega) h.2.2.2
  omega
theorem same_text {a b : ByteArray} : a.toList = b.toList ↔ a = b := by
  rw [ByteArray.toList_eq, ByteArray.toList_eq]
  constructor
  · intro h; exact ByteArray.ext (Array.toList_inj.1 h)
  · rintro rfl; rfl
theorem unsealed_ev (a : ByteArray) (h : a.size ≤ 1048576) : ∃ (s : ByteArray) (b : Bool), Ev (fun k => spec_Unsealed.f k a) (s, b) ∧ Ev (fun k => impl_Unsealed.f k a) (s, b) ∧
    (b = true → s.size ≤ 20000 ∧ ∃ S : Int, Ev (fun k => spec_SumOf.f k s) S ∧ a = s ++ fourS S) := by
  unfold spec_Unsealed.f impl_Unsealed.f
  simp only [within_eq, spec_l01In_of, Option.bind_some]
  rw [w64 (x := (a.size : Int) - 4) (by omega) (by omega)]
  by_cases h1 : (a.size : Int) - 4 < 0
  · exact ⟨_, false, Ev.pos h1 (Ev.now _), Ev.neg (by simp; omega) (Ev.now _), fun x => by cases x⟩
  by_cases h2 : (a.size : Int) - 4 > 20000
  · exact ⟨_, false, Ev.neg h1 (Ev.pos h2 (Ev.now _)), Ev.neg (by simp; omega) (Ev.now _), fun x => by cases x⟩
  obtain ⟨m, hm⟩ : ∃ m : Nat, a.size = m + 4 := ⟨a.size - 4, by omega⟩
  rw [show (a.size : Int) - 4 = (m : Int) by omega, Int.toNat_natCast, hm]
  have hz : (a.extract 0 m).size = m := by rw [ByteArray.size_extract]; omega
  obtain ⟨S, e1, e2, s0, s1⟩ := sumOf_ev (a.extract 0 m) (by omega)
  have hf := impl_fourAt_of a m (by omega) (by omega)
  have hv := fourV_in a m
  have hx := four_of a m (by omega)
  have hc : a = a.extract 0 m ++ a.extract m (m + 4) := by
    rw [← ByteArray.extract_eq_extract_append_extract m (by omega) (by omega), ← hm, ByteArray.extract_zero_size]
  by_cases hS : S = fourV a m
  · refine ⟨a.extract 0 m, true, ?_, ?_, fun _ => ⟨by omega, S, e1, by rw [hS, hx]; exact hc⟩⟩
    · refine Ev.neg (by omega) (Ev.neg (by omega) (Ev.pos (by omega) (Ev.pos (by omega) (Ev.bind e1 (Ev.bindc rfl (Ev.pos ?_ (Ev.now _)))))))
      rw [same_text, ← hx, ← hS]; rfl
    · refine Ev.pos (by simp; omega) (Ev.pos (by omega) (Ev.pos (by omega) (Ev.bind e2 (Ev.bindc hf (Ev.pos ?_ (Ev.now _))))))
      rw [w64 (by omega) (by omega)]; exact hS
  · refine ⟨⟨#[]⟩, false, ?_, ?_, fun x => by cases x⟩
    · refine Ev.neg (by omega) (Ev.neg (by omega) (Ev.pos (by omega) (Ev.pos (by omega) (Ev.bind e1 (Ev.bindc rfl (Ev.neg ?_ (Ev.now _)))))))
      rw [same_text, ← hx]
      intro h'
      exact hS (fourS_inj ⟨s0, s1⟩ hv h'.symm)
    · refine Ev.pos (by simp; omega) (Ev.pos (by omega) (Ev.pos (by omega) (Ev.bind e2 (Ev.bindc hf (Ev.neg ?_ (Ev.now _))))))
      rw [w64 (by omega) (by omega)]; exact hS
theorem pw1 : ∀ j : Nat, j < 5 → (2 : Int) ^ min (7 * (j : Int)).toNat IntKind.i64.bits = 128 ^ j := by decide
theorem pw2 : ∀ j : Nat, j < 5 → (2 : Int) ^ (7 * j) = 128 ^ j := by decide
theorem pw3 : ∀ j : Nat, j < 6 → 1 ≤ (128 : Int) ^ j ∧ (128 : Int) ^ j ≤ 34359738368 := by decide
theorem shift_or (j : Nat) (hj : j < 5) (n c : Int) (h0 : 0 ≤ n) (h1 : n < 128 ^ j) (c0 : 0 ≤ c) (c1 : c < 128) : Go.bits .or .i64 n (shl .i64 c (7 * (j : Int))) = n + c * 128 ^ j := by
  have hp := pw3 j (by omega)
  have m0 : 0 ≤ c * 128 ^ j := Int.mul_nonneg c0 (by omega)
  have m1 : c * 128 ^ j ≤ 127 * 34359738368 := Int.mul_le_mul (by omega) hp.2 (by omega) (by omega)
  have hm : (c * 128 ^ j) % 128 ^ j = 0 := Int.mul_emod_left _ _
  unfold shl
  rw [pw1 j hj, IntKind.wrap_i64]
  rw [show (c * 128 ^ j + 9223372036854775808) % 18446744073709551616 - 9223372036854775808 = c * 128 ^ j by omega, or_comm']
  rw [bits_join .i64 63 (by decide) wraps_i64 (7 * j) (c * 128 ^ j) n m0 (by rw [pw2 j hj]; exact hm) (by omega) h0 (by rw [pw2 j hj]; exact h1) (by omega)]
  omega
theorem and_u8 {x : Int} (h₀ : 0 ≤ x) (h₁ : x < 256) : Go.bits .and .u8 x 127 = x % 128 := bits_mask .u8 8 (by decide) wraps_u8 7 (by decide) x h₀ h₁
/-- What was read at a place is a number, and what stands there is its drawing. -/
def RV (s : ByteArray) (a : Nat) (m q : Int) : Prop := (0 ≤ m ∧ m ≤ 1000000000) ∧ ∃ e : Nat, q = e ∧ a < e ∧ e ≤ s.size ∧ Ev (fun k => spec_l01Var.f k m) (s.extract a e)
theorem rv_none (s : ByteArray) (a : Nat) (n p i : Int) : Ev (fun k => spec_ReadVar.j1 k s (a : Int) n p i false) (0, 0, false) := by
  refine Ev.step (fun _ => rfl) ?_
  simp only [spec_ReadVar.j1]
  exact Ev.neg (by simp) (Ev.now _)
theorem rv_none' (s : ByteArray) (a : Nat) (n i : Int) : Ev (fun k => impl_ReadVar.j1 k s (a : Int) n i false) (0, 0, false) := by
  refine Ev.step (fun _ => rfl) ?_
  simp only [impl_ReadVar.j1]
  exact Ev.neg (by simp) (Ev.now _)
theorem readVar_in (s : ByteArray) (hs : s.size ≤ 100000000) (a : Nat) : ∀ (d j : Nat) (n : Int), 5 - j = d → j ≤ 5 → a + j ≤ s.size → 0 ≤ n → n < 128 ^ j →
    ∃ (m q : Int) (b : Bool), Ev (fun k => spec_ReadVar.l0 k s (a : Int) n (128 ^ j) ((a + j : Nat) : Int)) (m, q, b) ∧ Ev (fun k => impl_ReadVar.l0 k s (a : Int) n (j : Int)) (m, q, b) ∧ (b = true → RV s a m q) := by
  intro d
  induction d with
  | zero =>
    intro j n hd hj ha h0 h1
    refine ⟨0, 0, false, ?_, ?_, fun h => by cases h⟩
    · refine Ev.step (fun _ => rfl) ?_
      simp only [spec_ReadVar.l0]
      refine Ev.both (fun _ => ?_) (fun _ => rv_none _ _ _ _ _)
      rw [w64 (x := (a : Int) + 5) (by omega) (by omega), decide_eq_false (by omega)]
      exact rv_none _ _ _ _ _
    · refine Ev.step (fun _ => rfl) ?_
      simp only [impl_ReadVar.l0]
      exact Ev.neg (by omega) (rv_none' _ _ _ _)
  | succ d ih =>
    intro j n hd hj ha h0 h1
    by_cases hz : a + j < s.size
    · have hb := bt_range s ((a + j : Nat) : Int)
      have hp := pw3 j (by omega)
      have hp' := pw3 (j + 1) (by omega)
      have hpe : (128 : Int) ^ (j + 1) = 128 ^ j * 128 := Int.pow_succ _ _
      have hc0 : 0 ≤ bt s ((a + j : Nat) : Int) % 128 := by omega
      have hc1 : bt s ((a + j : Nat) : Int) % 128 < 128 := by omega
      have m0 : 0 ≤ (bt s ((a + j : Nat) : Int) % 128) * 128 ^ j := Int.mul_nonneg hc0 (by omega)
      have m1 : (bt s ((a + j : Nat) : Int) % 128) * 128 ^ j ≤ 127 * 128 ^ j := Int.mul_le_mul_of_nonneg_right (by omega) (by omega)
      have hor := shift_or j (by omega) n (bt s ((a + j : Nat) : Int) % 128) h0 h1 hc0 hc1
      generalize hN : n + (bt s ((a + j : Nat) : Int) % 128) * 128 ^ j = N at hor
      have hN0 : 0 ≤ N := by omega
      have hN1 : N < 128 ^ (j + 1) := by omega
      have sp : ∀ (r : Int × Int × Bool), Ev (fun k => if bt s ((a + j : Nat) : Int) < 128 then (if N > 1000000000 then some (0, 0, false) else ((spec_l01Var.f k N).bind fun t122 => (if 0 ≤ (a : Int) then (if (a : Int) ≤ ((a + j + 1 : Nat) : Int) then (if ((a + j + 1 : Nat) : Int) ≤ (s.size : Int) then (if t122.toList = (s.extract a (a + j + 1)).toList then some (N, ((a + j + 1 : Nat) : Int), true) else some (0, 0, false)) else none) else none) else none))) else (spec_ReadVar.l0 k s (a : Int) N (128 ^ (j + 1)) ((a + j + 1 : Nat) : Int))) r →
          Ev (fun k => spec_ReadVar.l0 k s (a : Int) n (128 ^ j) ((a + j : Nat) : Int)) r := by
        intro r hr
        refine Ev.step (fun _ => rfl) ?_
        simp only [spec_ReadVar.l0]
        refine Ev.pos (by omega) ?_
        rw [w64 (x := (a : Int) + 5) (by omega) (by omega), decide_eq_true (by omega)]
        refine Ev.step (fun _ => rfl) ?_
        simp only [spec_ReadVar.j1]
        refine Ev.pos (by first | trivial | rfl) (Ev.pos (by omega) (Ev.pos (by omega) ?_))
        rw [w64 (x := bt s ((a + j : Nat) : Int)) (by omega) (by omega), Int.tmod_eq_emod_of_nonneg hb.1, w64 (x := bt s ((a + j : Nat) : Int) % 128 * 128 ^ j) (by omega) (by omega), hN, w64 (x := N) (by omega) (by omega), w64 (x := ((a + j : Nat) : Int) + 1) (by omega) (by omega), ← hpe, w64 (x := 128 ^ (j + 1)) (by omega) (by omega), show ((a + j : Nat) : Int) + 1 = ((a + j + 1 : Nat) : Int) by omega, Int.toNat_natCast, Int.toNat_natCast]
        exact hr
      have im : ∀ (r : Int × Int × Bool), Ev (fun k => if bt s ((a + j : Nat) : Int) > 127 then (impl_ReadVar.l0 k s (a : Int) N ((j + 1 : Nat) : Int)) else ((impl_VarText.f k N).bind fun bt181 => (if bt181.2 = true then (if 0 ≤ (a : Int) then (if (a : Int) ≤ ((a + j + 1 : Nat) : Int) then (if ((a + j + 1 : Nat) : Int) ≤ (s.size : Int) then (if bt181.1.toList = (s.extract a (a + j + 1)).toList then some (N, ((a + j + 1 : Nat) : Int), true) else some (0, 0, false)) else none) else none) else none) else some (0, 0, false)))) r →
          Ev (fun k => impl_ReadVar.l0 k s (a : Int) n (j : Int)) r := by
        intro r hr
        refine Ev.step (fun _ => rfl) ?_
        simp only [impl_ReadVar.l0]
        refine Ev.pos (by omega) ?_
        rw [w64 (x := (a : Int) + (j : Int)) (by omega) (by omega), show (a : Int) + (j : Int) = ((a + j : Nat) : Int) by omega, decide_eq_true (by omega)]
        refine Ev.step (fun _ => rfl) ?_
        simp only [impl_ReadVar.j1]
        rw [w64 (x := (a : Int) + (j : Int)) (by omega) (by omega), show (a : Int) + (j : Int) = ((a + j : Nat) : Int) by omega]
        refine Ev.pos (by first | trivial | rfl) (Ev.pos (by omega) (Ev.pos (by omega) ?_))
        rw [w64 (x := 7 * (j : Int)) (by omega) (by omega), and_u8 hb.1 (by omega), w64 (x := bt s ((a + j : Nat) : Int) % 128) (by omega) (by omega), hor, w64 (x := ((a + j : Nat) : Int) + 1) (by omega) (by omega), w64 (x := (j : Int) + 1) (by omega) (by omega), show ((a + j : Nat) : Int) + 1 = ((a + j + 1 : Nat) : Int) by omega, show (j : Int) + 1 = ((j + 1 : Nat) : Int) by omega, Int.toNat_natCast, Int.toNat_natCast]
        exact Ev.pos (by omega) hr
      by_cases hc : bt s ((a + j : Nat) : Int) < 128
      · by_cases hb9 : N > 1000000000
        · refine ⟨0, 0, false, sp _ (Ev.pos hc (Ev.pos hb9 (Ev.now _))), im _ (Ev.neg (by omega) ?_), fun h => by cases h⟩
          unfold impl_VarText.f
          refine Ev.bind (Ev.bindc ((within_eq _ _ _).trans (spec_l01In_of _ _ _)) (Ev.neg (by simp; omega) (Ev.now _))) (Ev.neg (by simp) (Ev.now _))
        · obtain ⟨v, v1, v2, _⟩ := vars_ev N hN0 (by omega)
          by_cases he : v.toList = (s.extract a (a + j + 1)).toList
          · refine ⟨N, ((a + j + 1 : Nat) : Int), true, sp _ (Ev.pos hc (Ev.neg hb9 (Ev.bind v1 (Ev.pos (by omega) (Ev.pos (by omega) (Ev.pos (by omega) (Ev.pos he (Ev.now _)))))))), im _ (Ev.neg (by omega) (Ev.bind v2 (Ev.pos rfl (Ev.pos (by omega) (Ev.pos (by omega) (Ev.pos (by omega) (Ev.pos he (Ev.now _)))))))), fun _ => ?_⟩
            exact ⟨⟨hN0, by omega⟩, a + j + 1, rfl, by omega, by omega, by rw [← same_text.1 he]; exact v1⟩
          · exact ⟨0, 0, false, sp _ (Ev.pos hc (Ev.neg hb9 (Ev.bind v1 (Ev.pos (by omega) (Ev.pos (by omega) (Ev.pos (by omega) (Ev.neg he (Ev.now _)))))))), im _ (Ev.neg (by omega) (Ev.bind v2 (Ev.pos rfl (Ev.pos (by omega) (Ev.pos (by omega) (Ev.pos (by omega) (Ev.neg he (Ev.now _)))))))), fun h => by cases h⟩
      · obtain ⟨m, q, b, r1, r2, r3⟩ := ih (j + 1) N (by omega) (by omega) (by omega) hN0 hN1
        exact ⟨m, q, b, sp _ (Ev.neg hc r1), im _ (Ev.pos (by omega) r2), r3⟩
    · refine ⟨0, 0, false, ?_, ?_, fun h => by cases h⟩
      · refine Ev.step (fun _ => rfl) ?_
        simp only [spec_ReadVar.l0]
        exact Ev.neg (by omega) (rv_none _ _ _ _ _)
      · refine Ev.step (fun _ => rfl) ?_
        simp only [impl_ReadVar.l0]
        refine Ev.pos (by omega) ?_
        rw [w64 (x := (a : Int) + (j : Int)) (by omega) (by omega), decide_eq_false (by omega)]
        exact rv_none' _ _ _ _
theorem readVar_ev (s : ByteArray) (hs : s.size ≤ 100000000) (a : Nat) (ha : a ≤ s.size) : ∃ (m q : Int) (b : Bool), Ev (fun k => spec_ReadVar.f k s (a : Int)) (m, q, b) ∧ Ev (fun k => impl_ReadVar.f k s (a : Int)) (m, q, b) ∧ (b = true → RV s a m q) := by
  obtain ⟨m, q, b, r1, r2, r3⟩ := readVar_in s hs a 5 0 0 rfl (by omega) (by omega) (by omega) (by decide)
  refine ⟨m, q, b, ?_, ?_, r3⟩
  · unfold spec_ReadVar.f
    exact Ev.bindc (spec_l01In_of _ _ _) (Ev.pos (by simp; omega) r1)
  · unfold impl_ReadVar.f
    exact Ev.bindc ((within_eq _ _ _).trans (spec_l01In_of _ _ _)) (Ev.pos (by simp; omega) r2)
theorem fourS_size (n : Int) : (fourS n).size = 4 := by unfold fourS; rw [strOfNums_size]; rfl
theorem specSealed_ev (t : ByteArray) (h : t.size ≤ 20000) : ∃ S : Int, Ev (fun k => spec_SumOf.f k t) S ∧ Ev (fun k => spec_Sealed.f k t) (t ++ fourS S, true) := by
  obtain ⟨S, e, _, _⟩ := sumOf_ev t (by omega)
  refine ⟨S, e, ?_⟩
  unfold spec_Sealed.f
  refine Ev.neg (by omega) (Ev.bind e (Ev.bindc rfl (Ev.pos ?_ (Ev.now _))))
  have := fourS_size S
  unfold fourS at this
  rw [this]; omega
/-- The text of a right frame, its two numbers' drawings given. -/
theorem specText_ev (x0 x1 x2 x3 x4 x5 x6 : Int) (p c : ByteArray) (hp : p.size ≤ 20000) (hc : c.size ≤ 20000) (ef : Ev (fun k => spec_FrameOk.f k x0 x1 x2 x3 x4 x5 x6) true) (ep : Ev (fun k => spec_l01Var.f k x2) p) (ec : Ev (fun k => spec_l01Var.f k x6) c)
    (t : ByteArray) (v : ByteArray) (b : Bool) (ht : ((((strOfNums [x0 % 256, x1 % 256] ++ p) ++ strOfNums [x3 % 256]) ++ fourS x4) ++ fourS x5) ++ c = t) (es : Ev (fun k => spec_Sealed.f k t) (v, b)) :
    Ev (fun k => spec_FrameText.f k x0 x1 x2 x3 x4 x5 x6) (v, b) := by
  unfold spec_FrameText.f
  subst ht
  refine Ev.bind ef (Ev.pos rfl (Ev.bindc rfl (Ev.bind ep (Ev.pos ?_ (Ev.bindc rfl (Ev.pos ?_ (Ev.bindc rfl (Ev.pos ?_ (Ev.bindc rfl (Ev.pos ?_ (Ev.bind ec (Ev.pos ?_ (Ev.bind es (Ev.now _))))))))))))))
  all_goals (simp only [ByteArray.size_append, strOfNums_size, List.length_cons, List.length_nil]; omega)
theorem specText_no (x0 x1 x2 x3 x4 x5 x6 : Int) (ef : Ev (fun k => spec_FrameOk.f k x0 x1 x2 x3 x4 x5 x6) false) : Ev (fun k => spec_FrameText.f k x0 x1 x2 x3 x4 x5 x6) (⟨#[]⟩, false) := by
  unfold spec_FrameText.f
  exact Ev.bind ef (Ev.neg (by simp) (Ev.now _))
theorem specText_any (x0 x1 x2 x3 x4 x5 x6 : Int) : ∃ (v : ByteArray) (b : Bool), Ev (fun k => spec_FrameText.f k x0 x1 x2 x3 x4 x5 x6) (v, b) := by
  obtain ⟨b, ef, hb⟩ := frameOk_ev x0 x1 x2 x3 x4 x5 x6
  cases b with
  | false => exact ⟨_, _, specText_no _ _ _ _ _ _ _ ef⟩
  | true =>
    obtain ⟨_, h2, h6⟩ := hb rfl
    obtain ⟨p, p1, _, p3⟩ := vars_ev x2 (by omega) (by omega)
    obtain ⟨c, c1, _, c3⟩ := vars_ev x6 (by omega) (by omega)
    obtain ⟨S, _, e⟩ := specSealed_ev (((((strOfNums [x0 % 256, x1 % 256] ++ p) ++ strOfNums [x3 % 256]) ++ fourS x4) ++ fourS x5) ++ c) (by simp only [ByteArray.size_append, strOfNums_size, fourS_size, List.length_cons, List.length_nil]; omega)
    exact ⟨_, _, specText_ev _ _ _ _ _ _ _ p c (by omega) (by omega) ef p1 c1 _ _ _ rfl e⟩
theorem joined (s : ByteArray) (e1 e2 : Nat) (h1 : 2 < e1) (h2 : e1 + 9 < e2) (h3 : e2 ≤ s.size) :
    ((((strOfNums [bt s 0 % 256, bt s 1 % 256] ++ s.extract 2 e1) ++ strOfNums [bt s (e1 : Int) % 256]) ++ fourS (fourV s (e1 + 1))) ++ fourS (fourV s (e1 + 5))) ++ s.extract (e1 + 9) e2 = s.extract 0 e2 := by
  have t0 : strOfNums [bt s 0 % 256, bt s 1 % 256] = s.extract 0 2 := two_bytes s 0 (by omega)
  have t1 : fourS (fourV s (e1 + 1)) = s.extract (e1 + 1) (e1 + 5) := four_of s (e1 + 1) (by omega)
  have t2 : fourS (fourV s (e1 + 5)) = s.extract (e1 + 5) (e1 + 9) := four_of s (e1 + 5) (by omega)
  rw [t0, t1, t2, one_byte s e1 (by omega)]
  rw [← ByteArray.extract_eq_extract_append_extract 2 (by omega) (by omega), ← ByteArray.extract_eq_extract_append_extract e1 (by omega) (by omega), ← ByteArray.extract_eq_extract_append_extract (e1 + 1) (by omega) (by omega), ← ByteArray.extract_eq_extract_append_extract (e1 + 5) (by omega) (by omega), ← ByteArray.extract_eq_extract_append_extract (e1 + 9) (by omega) (by omega)]
def rf0 : Int × Int × Int × Int × Int × Int × Int × Bool := (0, 0, 0, 0, 0, 0, 0, false)
theorem sj0 (x s : ByteArray) : Ev (fun k => spec_ReadFrame.j0 k x s true) rf0 := by
  refine Ev.step (fun _ => rfl) ?_
  simp only [spec_ReadFrame.j0]
  exact Ev.pos (by first | trivial | rfl) (Ev.now _)
theorem ij0 (s : ByteArray) : Ev (fun k => impl_ReadFrame.j0 k s true) rf0 := by
  refine Ev.step (fun _ => rfl) ?_
  simp only [impl_ReadFrame.j0]
  exact Ev.pos (by first | trivial | rfl) (Ev.now _)
theorem sj1 (x s : ByteArray) (a b : Int) : Ev (fun k => spec_ReadFrame.j1 k x s a b true) rf0 := by
  refine Ev.step (fun _ => rfl) ?_
  simp only [spec_ReadFrame.j1]
  exact Ev.pos (by first | trivial | rfl) (Ev.now _)
theorem ij1 (s : ByteArray) (a b : Int) : Ev (fun k => impl_ReadFrame.j1 k s a b true) rf0 := by
  refine Ev.step (fun _ => rfl) ?_
  simp only [impl_ReadFrame.j1]
  exact Ev.pos (by first | trivial | rfl) (Ev.now _)
/-- What was read is what the text's frame tells. -/
def FT (a : ByteArray) (r : Int × Int × Int × Int × Int × Int × Int × Bool) : Prop := r.2.2.2.2.2.2.2 = true → Ev (fun k => spec_FrameText.f k r.1 r.2.1 r.2.2.1 r.2.2.2.1 r.2.2.2.2.1 r.2.2.2.2.2.1 r.2.2.2.2.2.2.1) (a, true)
theorem ft0 (a : ByteArray) : FT a rf0 := fun h => by simp [rf0] at h
/-- Behind the first number. -/
theorem tail_ev (a s : ByteArray) (S : Int) (hs : s.size ≤ 20000) (eS : Ev (fun k => spec_SumOf.f k s) S) (ha : a = s ++ fourS S) (m : Int) (e1 : Nat) (hm : 0 ≤ m ∧ m ≤ 1000000000) (l1 : 2 < e1) (l2 : e1 + 9 ≤ s.size) (v1 : Ev (fun k => spec_l01Var.f k m) (s.extract 2 e1)) :
    ∃ r, Ev (fun k => spec_ReadFrame.j1 k a s m (e1 : Int) false) r ∧ Ev (fun k => impl_ReadFrame.j1 k s m (e1 : Int) false) r ∧ FT a r := by
  have w9 : wrap64 ((e1 : Int) + 9) = ((e1 + 9 : Nat) : Int) := by rw [w64 (by omega) (by omega)]; omega
  have w1 : wrap64 ((e1 : Int) + 1) = ((e1 + 1 : Nat) : Int) := by rw [w64 (by omega) (by omega)]; omega
  have w5 : wrap64 ((e1 : Int) + 5) = ((e1 + 5 : Nat) : Int) := by rw [w64 (by omega) (by omega)]; omega
  have b0 := bt_range s 0; have b1 := bt_range s 1; have b2 := bt_range s (e1 : Int)
  have u0 : wrap64 (bt s 0) = bt s 0 := w64 (by omega) (by omega)
  have u1 : wrap64 (bt s 1) = bt s 1 := w64 (by omega) (by omega)
  have u2 : wrap64 (bt s (e1 : Int)) = bt s (e1 : Int) := w64 (by omega) (by omega)
  obtain ⟨c, q, b, r1, r2, r3⟩ := readVar_ev s (by omega) (e1 + 9) l2
  obtain ⟨fo, ef, hf⟩ := frameOk_ev (bt s 0) (bt s 1) m (bt s (e1 : Int)) (fourV s (e1 + 1)) (fourV s (e1 + 5)) c
  have ef' : Ev (fun k => impl_FrameOk.f k (bt s 0) (bt s 1) m (bt s (e1 : Int)) (fourV s (e1 + 1)) (fourV s (e1 + 5)) c) fo := Ev.congr (fun k => frameOk_eq k _ _ _ _ _ _ _) ef
  have sp : ∀ (v : ByteArray) (g : Bool) r, Ev (fun k => spec_FrameText.f k (bt s 0) (bt s 1) m (bt s (e1 : Int)) (fourV s (e1 + 1)) (fourV s (e1 + 5)) c) (v, g) →
      (if b = true then (if g = true then (if v.toList = a.toList then some (bt s 0, bt s 1, m, bt s (e1 : Int), fourV s (e1 + 1), fourV s (e1 + 5), c, true) else some rf0) else some rf0) else some rf0) = some r → Ev (fun k => spec_ReadFrame.j1 k a s m (e1 : Int) false) r := by
    intro v g r et hr
    refine Ev.step (fun _ => rfl) ?_
    simp only [spec_ReadFrame.j1]
    rw [w9, w1, w5, u0, u1, u2]
    exact Ev.neg (by simp) (Ev.bind r1 (Ev.pos (by omega) (Ev.pos (by omega) (Ev.pos (by omega) (Ev.pos (by omega) (Ev.bindc (spec_l17Four_of s (e1 + 1) (by omega) (by omega)) (Ev.bindc (spec_l17Four_of s (e1 + 5) (by omega) (by omega)) (Ev.bind et (Ev.const hr)))))))))
  have im : ∀ (f : Nat → Option (Int × Int × Int × Int × Int × Int × Int × Bool)) r, (∀ k, f k = if b = true then (if q = (s.size : Int) then ((impl_FrameOk.f k (bt s 0) (bt s 1) m (bt s (e1 : Int)) (fourV s (e1 + 1)) (fourV s (e1 + 5)) c).bind fun t205 => (if t205 = true then some (bt s 0, bt s 1, m, bt s (e1 : Int), fourV s (e1 + 1), fourV s (e1 + 5), c, true) else some rf0)) else some rf0) else some rf0) → Ev f r → Ev (fun k => impl_ReadFrame.j1 k s m (e1 : Int) false) r := by
    intro f r hf' hr
    refine Ev.step (fun _ => rfl) ?_
    simp only [impl_ReadFrame.j1]
    rw [w9, w1, w5, u0, u1, u2]
    exact Ev.neg (by simp) (Ev.bind r2 (Ev.pos (by omega) (Ev.pos (by omega) (Ev.pos (by omega) (Ev.pos (by omega) (Ev.bindc (impl_fourAt_of s (e1 + 1) (by omega) (by omega)) (Ev.bindc (impl_fourAt_of s (e1 + 5) (by omega) (by omega)) (Ev.congr (fun k => (hf' k).symm) hr))))))))
  cases b with
  | false =>
    obtain ⟨v, g, et⟩ := specText_any (bt s 0) (bt s 1) m (bt s (e1 : Int)) (fourV s (e1 + 1)) (fourV s (e1 + 5)) c
    exact ⟨rf0, sp v g _ et (by simp), im _ _ (fun _ => rfl) (Ev.neg (by simp) (Ev.now _)), ft0 a⟩
  | true =>
    obtain ⟨hc, e2, rfl, l3, l4, v2⟩ := r3 rfl
    cases fo with
    | false =>
      refine ⟨rf0, sp _ _ _ (specText_no _ _ _ _ _ _ _ ef) (by simp), im _ _ (fun _ => rfl) (Ev.pos rfl ?_), ft0 a⟩
      exact Ev.both (fun _ => Ev.bind ef' (Ev.neg (by simp) (Ev.now _))) (fun _ => Ev.now _)
    | true =>
      have z1 : (s.extract 2 e1).size ≤ 20000 := by rw [ByteArray.size_extract]; omega
      have z2 : (s.extract (e1 + 9) e2).size ≤ 20000 := by rw [ByteArray.size_extract]; omega
      have z3 : (s.extract 0 e2).size = e2 := by rw [ByteArray.size_extract]; omega
      obtain ⟨S', eS', es⟩ := specSealed_ev (s.extract 0 e2) (by omega)
      have et := specText_ev _ _ _ _ _ _ _ _ _ z1 z2 ef v1 v2 _ _ _ (joined s e1 e2 l1 l3 l4) es
      by_cases he : e2 = s.size
      · have hx : s.extract 0 e2 = s := by rw [he, ByteArray.extract_zero_size]
        have hS : S' = S := by rw [hx] at eS'; exact Ev.uniq eS' eS
        refine ⟨_, sp _ _ _ et ?_, im _ _ (fun _ => rfl) (Ev.pos rfl (Ev.pos (by omega) (Ev.bind ef' (Ev.pos rfl (Ev.now _))))), fun _ => by rw [hx, hS, ← ha] at et; exact et⟩
        rw [if_pos rfl, if_pos rfl, if_pos (by rw [same_text, hx, hS, ha])]
      · refine ⟨rf0, sp _ _ _ et ?_, im _ _ (fun _ => rfl) (Ev.pos rfl (Ev.neg (by omega) (Ev.now _))), ft0 a⟩
        rw [if_pos rfl, if_pos rfl, if_neg]
        rw [same_text]
        intro h'
        have := congrArg ByteArray.size h'
        rw [ha] at this
        simp only [ByteArray.size_append, fourS_size, z3] at this
        omega
theorem readFrame_ev (a : ByteArray) (h : a.size ≤ 1048576) : ∃ r, Ev (fun k => spec_ReadFrame.f k a) r ∧ Ev (fun k => impl_ReadFrame.f k a) r ∧ FT a r := by
  obtain ⟨s, b, u1, u2, hu⟩ := unsealed_ev a h
  unfold spec_ReadFrame.f impl_ReadFrame.f
  cases b with
  | false => exact ⟨rf0, Ev.bind u1 (Ev.neg (by simp) (sj0 _ _)), Ev.bind u2 (Ev.neg (by simp) (ij0 _)), ft0 a⟩
  | true =>
    obtain ⟨hs, S, eS, ha⟩ := hu rfl
    by_cases h2 : (s.size : Int) < 2
    · refine ⟨rf0, Ev.bind u1 (Ev.pos rfl ?_), Ev.bind u2 (Ev.pos rfl ?_), ft0 a⟩
      · dsimp only; rw [decide_eq_true h2]; exact sj0 _ _
      · dsimp only; rw [decide_eq_true h2]; exact ij0 _
    obtain ⟨m, q, b, r1, r2, r3⟩ := readVar_ev s (by omega) 2 (by omega)
    have hj : ∃ r, Ev (fun k => spec_ReadFrame.j0 k a s false) r ∧ Ev (fun k => impl_ReadFrame.j0 k s false) r ∧ FT a r := by
      have sp : ∀ r, Ev (fun k => if b = true then (spec_ReadFrame.j1 k a s m q (decide ((wrap64 ((s.size : Int) - q)) < 9))) else (spec_ReadFrame.j1 k a s m q true)) r → Ev (fun k => spec_ReadFrame.j0 k a s false) r := by
        intro r hr
        refine Ev.step (fun _ => rfl) ?_
        simp only [spec_ReadFrame.j0]
        exact Ev.neg (by simp) (Ev.bind r1 hr)
      have im : ∀ r, Ev (fun k => if b = true then (impl_ReadFrame.j1 k s m q (decide ((wrap64 ((s.size : Int) - q)) < 9))) else (impl_ReadFrame.j1 k s m q true)) r → Ev (fun k => impl_ReadFrame.j0 k s false) r := by
        intro r hr
        refine Ev.step (fun _ => rfl) ?_
        simp only [impl_ReadFrame.j0]
        exact Ev.neg (by simp) (Ev.bind r2 hr)
      cases b with
      | false => exact ⟨rf0, sp _ (Ev.neg (by simp) (sj1 _ _ _ _)), im _ (Ev.neg (by simp) (ij1 _ _ _)), ft0 a⟩
      | true =>
        obtain ⟨hm, e1, rfl, l1, l2, v1⟩ := r3 rfl
        have w : wrap64 ((s.size : Int) - (e1 : Int)) = (s.size : Int) - (e1 : Int) := w64 (by omega) (by omega)
        by_cases h9 : (s.size : Int) - (e1 : Int) < 9
        · refine ⟨rf0, sp _ (Ev.pos rfl ?_), im _ (Ev.pos rfl ?_), ft0 a⟩
          · rw [w, decide_eq_true h9]; exact sj1 _ _ _ _
          · rw [w, decide_eq_true h9]; exact ij1 _ _ _
        · obtain ⟨r, t1, t2, t3⟩ := tail_ev a s S hs eS ha m e1 hm l1 (by omega) v1
          refine ⟨r, sp _ (Ev.pos rfl ?_), im _ (Ev.pos rfl ?_), t3⟩
          · rw [w, decide_eq_false h9]; exact t1
          · rw [w, decide_eq_false h9]; exact t2
    obtain ⟨r, t1, t2, t3⟩ := hj
    refine ⟨r, Ev.bind u1 (Ev.pos rfl ?_), Ev.bind u2 (Ev.pos rfl ?_), t3⟩
    · dsimp only; rw [decide_eq_false h2]; exact t1
    · dsimp only; rw [decide_eq_false h2]; exact t2
/-- One bound text read out of a text. -/
theorem readShort_ev (t : ByteArray) (ht : t.size ≤ 1048576) (a : Nat) (ha : a ≤ t.size) : ∃ (s : ByteArray) (q : Int) (b : Bool), Ev (fun k => spec_ReadShort.f k t (a : Int)) (s, q, b) ∧ Ev (fun k => impl_ReadShort.f k t (a : Int)) (s, q, b) ∧ s.size ≤ 1048576 ∧
    (b = true → ∃ (e : Nat) (v : ByteArray), q = e ∧ a < e ∧ e ≤ t.size ∧ Ev (fun k => spec_l01Var.f k (s.size : Int)) v ∧ t.extract a e = v ++ s) := by
  obtain ⟨m, q, b, r1, r2, r3⟩ := readVar_ev t (by omega) a ha
  unfold spec_ReadShort.f impl_ReadShort.f
  cases b with
  | false => exact ⟨_, _, _, Ev.bind r1 (Ev.neg (by simp) (Ev.now _)), Ev.bind r2 (Ev.neg (by simp) (Ev.now _)), by decide, by simp⟩
  | true =>
    obtain ⟨hm, e, rfl, l1, l2, v1⟩ := r3 rfl
    by_cases h1 : m > 20000
    · exact ⟨_, _, _, Ev.bind r1 (Ev.pos rfl (Ev.pos h1 (Ev.now _))), Ev.bind r2 (Ev.pos rfl (Ev.pos h1 (Ev.now _))), by decide, by simp⟩
    have w1 : wrap64 ((t.size : Int) - (e : Int)) = (t.size : Int) - (e : Int) := w64 (by omega) (by omega)
    have w2 : wrap64 ((e : Int) + m) = ((e + m.toNat : Nat) : Int) := by rw [w64 (by omega) (by omega)]; omega
    by_cases h2 : m > (t.size : Int) - (e : Int)
    · refine ⟨⟨#[]⟩, 0, false, Ev.bind r1 (Ev.pos rfl (Ev.neg h1 (Ev.pos ?_ (Ev.now _)))), Ev.bind r2 (Ev.pos rfl (Ev.neg h1 (Ev.pos ?_ (Ev.now _)))), by decide, by simp⟩
      · dsimp only; rw [w1]; exact h2
      · dsimp only; rw [w1]; exact h2
    have hz : (t.extract e (e + m.toNat)).size = m.toNat := by rw [ByteArray.size_extract]; omega
    refine ⟨t.extract e (e + m.toNat), ((e + m.toNat : Nat) : Int), true, Ev.bind r1 ?_, Ev.bind r2 ?_, by omega, fun _ => ⟨e + m.toNat, t.extract a e, rfl, by omega, by omega, ?_, ?_⟩⟩
    · dsimp only
      rw [w1, w2]
      exact Ev.pos rfl (Ev.neg h1 (Ev.neg h2 (Ev.pos (by omega) (Ev.pos (by omega) (Ev.pos (by omega) (Ev.now _))))))
    · dsimp only
      rw [w1, w2]
      exact Ev.pos rfl (Ev.neg h1 (Ev.neg h2 (Ev.pos (by omega) (Ev.pos (by omega) (Ev.pos (by omega) (Ev.now _))))))
    · rw [hz, show ((m.toNat : Nat) : Int) = m by omega]; exact v1
    · rw [← ByteArray.extract_eq_extract_append_extract e (by omega) (by omega)]
/-- A text is that of these lines, one behind the other. -/
def Told : List S134 → ByteArray → Prop
  | [], x => x = ⟨#[]⟩
  | e :: l, x => ∃ s v y : ByteArray, Ev (fun k => spec_EntryText.f k e.f0 e.f1 e.f2.f0 e.f2.f1 e.f2.f2 e.f2.f3) s ∧ s.toList ≠ ([] : List UInt8) ∧ Ev (fun k => spec_l01Var.f k (s.size : Int)) v ∧ x = (v ++ s) ++ y ∧ Told l y
theorem told_snoc {e : S134} {s v : ByteArray} (h1 : Ev (fun k => spec_EntryText.f k e.f0 e.f1 e.f2.f0 e.f2.f1 e.f2.f2 e.f2.f3) s) (h2 : s.toList ≠ ([] : List UInt8)) (h3 : Ev (fun k => spec_l01Var.f k (s.size : Int)) v) : ∀ (l : List S134) (x : ByteArray), Told l x → Told (l ++ [e]) (x ++ (v ++ s))
  | [], x, h => by
    have : x = ByteArray.empty := h
    subst this
    exact ⟨s, v, ⟨#[]⟩, h1, h2, h3, by rw [ByteArray.empty_append]; exact ByteArray.append_empty.symm, rfl⟩
  | f :: l, x, ⟨s', v', y, g1, g2, g3, g4, g5⟩ => ⟨s', v', y ++ (v ++ s), g1, g2, g3, by rw [g4, ByteArray.append_assoc], told_snoc h1 h2 h3 l y g5⟩
theorem told_log (l : List S134) (hl : l.length ≤ 200) : ∀ (d i : Nat) (o x : ByteArray), l.length - i = d → i ≤ l.length → Told (l.drop i) x → o.size + x.size ≤ 1048576 → Ev (fun k => spec_LogText.l0 k l o (i : Int)) (o ++ x, true) := by
  intro d
  induction d with
  | zero =>
    intro i o x hd hi ht hs
    have : i = l.length := by omega
    subst this
    rw [List.drop_length] at ht
    have : x = ByteArray.empty := ht
    subst this
    rw [ByteArray.append_empty]
    refine Ev.step (fun _ => rfl) ?_
    simp only [spec_LogText.l0]
    exact Ev.neg (by omega) (Ev.now _)
  | succ d ih =>
    intro i o x hd hi ht hs
    have hx : l[i]? = some l[i] := List.getElem?_eq_getElem (by omega)
    rw [List.drop_eq_getElem_cons (by omega)] at ht
    obtain ⟨s, v, y, g1, g2, g3, rfl, g5⟩ := ht
    simp only [ByteArray.size_append] at hs
    have := ih (i + 1) ((o ++ v) ++ s) y (by omega) (by omega) g5 (by simp only [ByteArray.size_append]; omega)
    refine Ev.step (fun _ => rfl) ?_
    simp only [spec_LogText.l0]
    rw [rd134 hx, w64 (x := (i : Int) + 1) (by omega) (by omega), show (i : Int) + 1 = ((i + 1 : Nat) : Int) by omega]
    have e : (o ++ ((v ++ s) ++ y)) = (((o ++ v) ++ s) ++ y) := by simp only [ByteArray.append_assoc]
    rw [e]
    exact Ev.pos (by omega) (Ev.pos (by omega) (Ev.bind g1 (Ev.neg g2 (Ev.bind g3 (Ev.pos (by omega) (Ev.pos (by simp only [ByteArray.size_append]; omega) this))))))
theorem readFrame_any (s : ByteArray) (h : s.size ≤ 1048576) : ∃ x0 x1 x2 x3 x4 x5 x6 b, Ev (fun k => spec_ReadFrame.f k s) (x0, x1, x2, x3, x4, x5, x6, b) ∧ Ev (fun k => impl_ReadFrame.f k s) (x0, x1, x2, x3, x4, x5, x6, b) ∧ (b = true → Ev (fun k => spec_FrameText.f k x0 x1 x2 x3 x4 x5 x6) (s, true) ∧ s.toList ≠ ([] : List UInt8)) := by
  obtain ⟨⟨x0, x1, x2, x3, x4, x5, x6, b⟩, e1, e2, e3⟩ := readFrame_ev s h
  refine ⟨x0, x1, x2, x3, x4, x5, x6, b, e1, e2, fun hb => ⟨e3 hb, fun hn => ?_⟩⟩
  obtain rfl : s = ByteArray.empty := same_text.1 (hn.trans (by rw [ByteArray.toList_eq]; rfl))
  have e4 := e3 hb
  obtain ⟨fo, ef, hf⟩ := frameOk_ev x0 x1 x2 x3 x4 x5 x6
  cases fo with
  | false =>
    have := Ev.uniq e4 (specText_no _ _ _ _ _ _ _ ef)
    simp at this
  | true =>
    obtain ⟨_, h2, h6⟩ := hf rfl
    obtain ⟨p, p1, p2, p3⟩ := vars_ev x2 (by omega) (by omega)
    obtain ⟨c, c1, c2, c3⟩ := vars_ev x6 (by omega) (by omega)
    have hz : ((((((strOfNums [x0 % 256, x1 % 256]) ++ p) ++ strOfNums [x3 % 256]) ++ fourS x4) ++ fourS x5) ++ c).size ≤ 20000 := by
      simp only [ByteArray.size_append, strOfNums_size, List.length_cons, List.length_nil, fourS_size]; omega
    obtain ⟨S', eS', es⟩ := specSealed_ev _ hz
    have et := specText_ev _ _ _ _ _ _ _ _ _ (by omega) (by omega) ef p1 c1 _ _ _ rfl es
    have := congrArg (fun y : ByteArray × Bool => y.1.size) (Ev.uniq e4 et)
    simp only [ByteArray.size_append, fourS_size] at this
    simp at this
theorem readLog_in (t : ByteArray) (ht : t.size ≤ 1048576) : ∀ (d a : Nat) (out : List S134), t.size - a < d → a ≤ t.size → out.length ≤ 200 → Told out (t.extract 0 a) →
    ∃ r : List S134 × Bool, Ev (fun k => spec_ReadLog.l0 k t [] out (a : Int)) r ∧ Ev (fun k => impl_ReadLog.l0 k t out (a : Int)) r ∧ r.1.length ≤ 200 := by
  intro d
  induction d with
  | zero => intro a out hd; omega
  | succ d ih =>
    intro a out hd ha hl hT
    by_cases hlt : (a : Int) < (t.size : Int)
    · obtain ⟨s, q, b, s1, s2, s3, s4⟩ := readShort_ev t ht a ha
      obtain ⟨x0, x1, x2, x3, x4, x5, x6, g, f1, f2, f3⟩ := readFrame_any s s3
      -- the reference goes round once
      have sp : ∀ r, Ev (fun k => if b = true then (if g = true then (if x0 = 1 then (if out.length < 2932031007402 then (spec_ReadLog.l0 k t [] (out ++ [(⟨x1, x2, (⟨x3, x4, x5, x6⟩ : S34)⟩ : S134)]) q) else (none)) else (some ([], false))) else (some ([], false))) else (some ([], false))) r → Ev (fun k => spec_ReadLog.l0 k t [] out (a : Int)) r := by
        intro r hr
        refine Ev.step (fun _ => rfl) ?_
        simp only [spec_ReadLog.l0]
        refine Ev.pos hlt ?_
        rw [decide_eq_true (show (out.length : Int) ≤ 200 by omega)]
        refine Ev.step (fun _ => rfl) ?_
        simp only [spec_ReadLog.j1]
        exact Ev.pos (by first | trivial | rfl) (Ev.bind s1 (Ev.bind f1 hr))
      have im : ∀ r, Ev (fun k => if b = true then (if g = true then (if x0 = 1 then (if (out.length : Int) = 200 then (some ((([] : List S134)), false)) else (if out.length < 2932031007402 then (impl_ReadLog.l0 k t (out ++ [(⟨x1, x2, (⟨x3, x4, x5, x6⟩ : S34)⟩ : S134)]) q) else (none))) else (some ([], false))) else (some ([], false))) else (some ([], false))) r → Ev (fun k => impl_ReadLog.l0 k t out (a : Int)) r := by
        intro r hr
        refine Ev.step (fun _ => rfl) ?_
        simp only [impl_ReadLog.l0]
        exact Ev.pos hlt (Ev.bind s2 (Ev.bind f2 hr))
      cases b with
      | false => exact ⟨([], false), sp _ (Ev.neg (by simp) (Ev.now _)), im _ (Ev.neg (by simp) (Ev.now _)), by simp⟩
      | true =>
        obtain ⟨e, v, rfl, l1, l2, v1, v2⟩ := s4 rfl
        cases g with
        | false => exact ⟨([], false), sp _ (Ev.pos rfl (Ev.neg (by simp) (Ev.now _))), im _ (Ev.pos rfl (Ev.neg (by simp) (Ev.now _))), by simp⟩
        | true =>
          obtain ⟨t1, t2⟩ := f3 rfl
          by_cases h1 : x0 = 1
          · subst h1
            have et : Ev (fun k => spec_EntryText.f k x1 x2 x3 x4 x5 x6) s := Ev.bind t1 (Ev.now _)
            have hT' := told_snoc (e := ⟨x1, x2, ⟨x3, x4, x5, x6⟩⟩) et t2 v1 _ _ hT
            rw [← v2, ← ByteArray.extract_eq_extract_append_extract a (by omega) (by omega)] at hT'
            by_cases h200 : (out.length : Int) = 200
            · refine ⟨([], false), sp _ (Ev.pos rfl (Ev.pos rfl (Ev.pos rfl (Ev.pos (by omega) ?_)))), im _ (Ev.pos rfl (Ev.pos rfl (Ev.pos rfl (Ev.pos h200 (Ev.now _))))), by simp⟩
              have hj : Ev (fun k => spec_ReadLog.j1 k t [] (out ++ [(⟨x1, x2, (⟨x3, x4, x5, x6⟩ : S34)⟩ : S134)]) (e : Int) false) ([], false) := by
                refine Ev.step (fun _ => rfl) ?_
                simp only [spec_ReadLog.j1]
                refine Ev.neg (by simp) ?_
                unfold spec_LogText.f
                refine Ev.bind (Ev.pos (by simp; omega) (Ev.now _)) (Ev.neg (by simp) (Ev.now _))
              refine Ev.step (fun _ => rfl) ?_
              simp only [spec_ReadLog.l0]
              rw [decide_eq_false (show ¬ ((out ++ [(⟨x1, x2, (⟨x3, x4, x5, x6⟩ : S34)⟩ : S134)]).length : Int) ≤ 200 by simp; omega)]
              exact Ev.both (fun _ => hj) (fun _ => hj)
            · obtain ⟨r, r1, r2, r3⟩ := ih e (out ++ [(⟨x1, x2, (⟨x3, x4, x5, x6⟩ : S34)⟩ : S134)]) (by omega) l2 (by simp; omega) hT'
              exact ⟨r, sp _ (Ev.pos rfl (Ev.pos rfl (Ev.pos rfl (Ev.pos (by omega) r1)))), im _ (Ev.pos rfl (Ev.pos rfl (Ev.pos rfl (Ev.neg h200 (Ev.pos (by omega) r2))))), r3⟩
          · exact ⟨([], false), sp _ (Ev.pos rfl (Ev.pos rfl (Ev.neg h1 (Ev.now _)))), im _ (Ev.pos rfl (Ev.pos rfl (Ev.neg h1 (Ev.now _)))), by simp⟩
    · have hz : a = t.size := by omega
      subst hz
      rw [ByteArray.extract_zero_size] at hT
      refine ⟨(out, true), ?_, ?_, hl⟩
      · have hg := told_log out hl out.length 0 ByteArray.empty t rfl (by omega) hT (by simp; omega)
        rw [ByteArray.empty_append] at hg
        refine Ev.step (fun _ => rfl) ?_
        simp only [spec_ReadLog.l0]
        refine Ev.neg hlt ?_
        refine Ev.step (fun _ => rfl) ?_
        simp only [spec_ReadLog.j1]
        refine Ev.neg (by simp) ?_
        unfold spec_LogText.f
        exact Ev.bind (Ev.neg (by omega) hg) (Ev.pos rfl (Ev.pos rfl (Ev.now _)))
      · refine Ev.step (fun _ => rfl) ?_
        simp only [impl_ReadLog.l0]
        exact Ev.neg hlt (Ev.now _)
theorem readLog_ev (t : ByteArray) (ht : t.size ≤ 1048576) : ∃ (l : List S134) (b : Bool), Ev (fun k => spec_ReadLog.f k t) (l, b) ∧ Ev (fun k => impl_ReadLog.f k t) (l, b) ∧ l.length ≤ 200 := by
  obtain ⟨⟨l, b⟩, h1, h2, h3⟩ := readLog_in t ht (t.size + 1) 0 [] (by omega) (by omega) (by simp) (by simp [Told]; rfl)
  exact ⟨l, b, h1, h2, h3⟩
/-- The plain law. -/
theorem FnExactReadLog : laws_FnExactReadLog.Pure := by
  intro a _
  refine Ev.rounds ?_
  unfold laws_FnExactReadLog.f
  by_cases h : (a.size : Int) > 1048576
  · exact Ev.pos h (Ev.now _)
  obtain ⟨l, b, e1, e2, hl⟩ := readLog_ev a (by omega)
  have e3 := eqEntryS_ev l (by omega)
  have c0 : mcount ctS134 l ≤ 1200 := by rw [mcount_const ctS134 6 (fun _ => rfl)]; omega
  have e4 := markEntryS_ev l 1 (by omega) (by omega) (by omega)
  have e5 := heldEntryS_ev l 1 (by omega) (by omega) (by omega)
  repeat (first
    | (with_reducible refine Ev.bind e1 ?_; try dsimp only)
    | (with_reducible refine Ev.bind e2 ?_; try dsimp only)
    | (with_reducible refine Ev.bind e3 ?_; try dsimp only)
    | (with_reducible refine Ev.bind e4 ?_; try dsimp only)
    | (with_reducible refine Ev.bind e5 ?_; try dsimp only)
    | (refine Ev.neg (by omega) ?_)
    | (refine Ev.pos (by first | rfl | omega) ?_)
    | (refine Ev.neg (by simp) ?_)
    | (refine Ev.step (fun _ => rfl) ?_; simp only [laws_FnExactReadLog.j0])
    | (refine Ev.step (fun _ => rfl) ?_; simp only [laws_FnExactReadLog.j1])
    | exact Ev.now _)
end Go.Proofs.Ythdeicbkimlnhaa.Pure
