/- laws.FnExactLogText returns true at every input, its argument as it was. No condition. -/
import Derived.Test.YtfobhfnkjmfbmaaExFnExactLogText
import Derived.Test.YtfobhfnkjmfbmaaArgFnExactLogText
set_option linter.unusedVariables false
set_option linter.unusedSimpArgs false
namespace Go.Proofs.Ytfobhfnkjmfbmaa.PFnExactLogText
open Go.RowKit Go.Proofs.YtfobhfnkjmfbmaaW.PrintWords Go.Proofs.YtfobhfnkjmfbmaaW.PrintLast Go.Proofs.YtfobhfnkjmfbmaaL Go.Proofs.YtfobhfnkjmfbmaaO Go.Proofs.Ytfobhfnkjmfbmaa.AFnExactLogText
theorem i64_of {x : Int} (h : OkN .i64 x) : -9223372036854775808 ≤ x ∧ x ≤ 9223372036854775807 := bounds_i64 h
open Go
theorem spec_l01In_of (x lo hi : Int) : spec_l01In.f x lo hi = some (decide (lo ≤ x ∧ x ≤ hi)) := by
  unfold spec_l01In.f
  rw [ite_some]; congr 1; rw [Bool.eq_iff_iff]
  by_cases h : x ≥ lo <;> simp [h] <;> omega
theorem item_ok (a b c d : Int) : ∃ r : Bool, spec_ItemOk.f a b c d = some r ∧ (r = true → 0 ≤ d ∧ d ≤ 1000000000) := by
  unfold spec_ItemOk.f spec_HalfOk.f
  simp only [spec_l01In_of, Option.bind_some]
  by_cases h1 : a = 1
  · rw [if_pos h1]
    by_cases h2 : 0 ≤ b ∧ b ≤ 4294967295
    · rw [if_pos (by simpa using h2)]
      by_cases h3 : 0 ≤ c ∧ c ≤ 4294967295
      · rw [if_pos (by simpa using h3)]; exact ⟨_, rfl, fun h => by have := beq_iff_eq.1 h; omega⟩
      · rw [if_neg (by simpa using h3)]; exact ⟨_, rfl, fun h => by cases h⟩
    · rw [if_neg (by simpa using h2)]; exact ⟨_, rfl, fun h => by cases h⟩
  · rw [if_neg h1]
    by_cases h2 : a = 2
    · rw [if_pos h2]
      by_cases h3 : 1 ≤ d ∧ d ≤ 1000000000
      · rw [if_pos (by simpa using h3)]
        by_cases h4 : b = 0
        · rw [if_pos h4]; exact ⟨_, rfl, fun _ => by omega⟩
        · rw [if_neg h4]; exact ⟨_, rfl, fun h => by cases h⟩
      · rw [if_neg (by simpa using h3)]; exact ⟨_, rfl, fun h => by cases h⟩
    · rw [if_neg h2]; exact ⟨_, rfl, fun h => by cases h⟩
/-! A frame's text: the program's and the reference's come to the same. -/
theorem wraps_i64 (n : Int) (h₀ : 0 ≤ n) (h₁ : n < 2 ^ 63) : IntKind.i64.wrap n = n := by rw [IntKind.wrap_i64]; omega
theorem wraps_u32 (n : Int) (h₀ : 0 ≤ n) (h₁ : n < 2 ^ 32) : IntKind.u32.wrap n = n := by rw [IntKind.wrap_u32]; omega
theorem and127 {x : Int} (h₀ : 0 ≤ x) (h₁ : x < 9223372036854775808) : Go.bits .and .i64 x 127 = x % 128 := bits_mask .i64 63 (by decide) wraps_i64 7 (by decide) x h₀ h₁
theorem and1 {x : Int} (h₀ : 0 ≤ x) (h₁ : x < 4294967296) : Go.bits .and .u32 x 1 = x % 2 := bits_mask .u32 32 (by decide) wraps_u32 1 (by decide) x h₀ h₁
theorem or_comm' (k : IntKind) (a b : Int) : Go.bits .or k a b = Go.bits .or k b a := by simp only [Go.bits]; rw [BitVec.or_comm]
theorem or128 {y : Int} (h₀ : 0 ≤ y) (h₁ : y < 128) : Go.bits .or .i64 y 128 = y + 128 := by
  rw [or_comm', bits_join .i64 63 (by decide) wraps_i64 7 128 y (by decide) (by decide) (by decide) h₀ h₁ (by omega)]; omega
theorem xor_in (a b : Int) : 0 ≤ Go.bits .xor .u32 a b ∧ Go.bits .xor .u32 a b < 4294967296 := by
  simp only [Go.bits]; rw [IntKind.wrap_u32]; omega
theorem var_ev : ∀ (d : Nat) (n : Int) (out : List Int), 0 ≤ n → n < 128 ^ (d + 1) → n ≤ 1000000000 → out.length + d ≤ 1000 →
    ∃ v, Ev (fun k => spec_l01Var.l0 k n out) v ∧ Ev (fun k => impl_VarText.l0 k n out) (v, true) ∧ v.size ≤ out.length + d + 1 := by
  intro d
  induction d with
  | zero =>
    intro n out h0 hd h1 hl
    refine ⟨strOfNums (out ++ [n % 256]), ?_, ?_, by rw [strOfNums_size]; simp⟩
    · refine Ev.step (fun _ => rfl) ?_
      simp only [spec_l01Var.l0]
      exact Ev.neg (by omega) (Ev.pos (by omega) (Ev.now _))
    · refine Ev.step (fun _ => rfl) ?_
      simp only [impl_VarText.l0]
      exact Ev.neg (by omega) (Ev.pos (by omega) (Ev.now _))
  | succ d ih =>
    intro n out h0 hd h1 hl
    by_cases h : n > 127
    · have hp : (128 : Int) ^ (d + 1 + 1) = 128 ^ (d + 1) * 128 := Int.pow_succ _ _
      rw [hp] at hd
      obtain ⟨v, e1, e2, hs⟩ := ih (n / 128) (out ++ [(n % 128 + 128) % 256]) (by omega) (by omega) (by omega) (by simp; omega)
      refine ⟨v, ?_, ?_, by simp at hs; omega⟩
      · refine Ev.step (fun _ => rfl) ?_
        simp only [spec_l01Var.l0]
        refine Ev.pos h (Ev.pos (by omega) ?_)
        rw [Int.tdiv_eq_ediv_of_nonneg h0, Int.tmod_eq_emod_of_nonneg h0, w64 (x := n / 128) (by omega) (by omega), w64 (x := n % 128 + 128) (by omega) (by omega)]
        exact e1
      · refine Ev.step (fun _ => rfl) ?_
        simp only [impl_VarText.l0]
        refine Ev.pos h (Ev.pos (by omega) ?_)
        rw [and127 h0 (by omega), or128 (by omega) (by omega)]
        exact e2
    · refine ⟨strOfNums (out ++ [n % 256]), ?_, ?_, by rw [strOfNums_size]; simp <;> omega⟩
      · refine Ev.step (fun _ => rfl) ?_
        simp only [spec_l01Var.l0]
        exact Ev.neg h (Ev.pos (by omega) (Ev.now _))
      · refine Ev.step (fun _ => rfl) ?_
        simp only [impl_VarText.l0]
        exact Ev.neg h (Ev.pos (by omega) (Ev.now _))
theorem within_eq (x lo hi : Int) : impl_within.f x lo hi = spec_l01In.f x lo hi := rfl
theorem vars_ev (n : Int) (h0 : 0 ≤ n) (h1 : n ≤ 1000000000) : ∃ v, Ev (fun k => spec_l01Var.f k n) v ∧ Ev (fun k => impl_VarText.f k n) (v, true) ∧ v.size ≤ 5 := by
  obtain ⟨v, e1, e2, hs⟩ := var_ev 4 n [] h0 (by omega) h1 (by simp)
  refine ⟨v, e1, ?_, by simpa using hs⟩
  unfold impl_VarText.f
  refine Ev.bindc ((within_eq _ _ _).trans (spec_l01In_of _ _ _)) (Ev.pos (by simp; omega) e2)
theorem sum_eq : ∀ k : Nat, (∀ (x0 : Int) (x1 : ByteArray) (x5 : Int), 0 ≤ x0 → x0 < 4294967296 → impl_SumMore.l0 k x0 x1 x5 = spec_SumMore.l0 k x0 x1 x5) ∧ ∀ (x0 : Int) (x1 : ByteArray) (x5 x6 : Int), 0 ≤ x0 → x0 < 4294967296 → impl_SumMore.l1 k x0 x1 x5 x6 = spec_SumMore.l1 k x0 x1 x5 x6
  | 0 => ⟨fun _ _ _ _ _ => by simp only [impl_SumMore.l0, spec_SumMore.l0], fun _ _ _ _ _ _ => by simp only [impl_SumMore.l1, spec_SumMore.l1]⟩
  | k + 1 => by
    obtain ⟨i0, i1⟩ := sum_eq k
    refine ⟨fun x0 x1 x5 h0 h1 => ?_, fun x0 x1 x5 x6 h0 h1 => ?_⟩
    · simp only [impl_SumMore.l0, spec_SumMore.l0]
      rw [i1 _ _ _ _ (xor_in _ _).1 (xor_in _ _).2]
    · simp only [impl_SumMore.l1, spec_SumMore.l1]
      rw [and1 h0 h1, Int.tmod_eq_emod_of_nonneg h0, Int.tdiv_eq_ediv_of_nonneg h0, show x0 / 2 % 4294967296 = x0 / 2 by omega, i1 _ _ _ _ (xor_in _ _).1 (xor_in _ _).2, i1 (x0 / 2) _ _ _ (by omega) (by omega), i0 x0 _ _ h0 h1]
theorem sum_in_ev (s : ByteArray) (i : Nat) (hn : s.size ≤ 100000000) (hi : i < s.size) (hx : ∀ x : Int, 0 ≤ x → x < 4294967296 → ∃ v : Int, Ev (fun k => spec_SumMore.l0 k x s ((i + 1 : Nat) : Int)) v ∧ 0 ≤ v ∧ v < 4294967296) :
    ∀ (d j : Nat) (x : Int), 8 - j = d → j ≤ 8 → 0 ≤ x → x < 4294967296 → ∃ v : Int, Ev (fun k => spec_SumMore.l1 k x s (i : Int) (j : Int)) v ∧ 0 ≤ v ∧ v < 4294967296 := by
  intro d
  induction d with
  | zero =>
    intro j x hd hj h0 h1
    obtain ⟨v, e, hv⟩ := hx x h0 h1
    refine ⟨v, ?_, hv⟩
    refine Ev.step (fun _ => rfl) ?_
    simp only [spec_SumMore.l1]
    refine Ev.neg (by omega) ?_
    rw [w64 (by omega) (by omega), show (i : Int) + 1 = ((i + 1 : Nat) : Int) by omega]
    exact e
  | succ d ih =>
    intro j x hd hj h0 h1
    by_cases h : Int.tmod x 2 = 1
    · obtain ⟨v, e, hv⟩ := ih (j + 1) (Go.bits .xor .u32 ((Int.tdiv x 2) % 4294967296) 3558460437) (by omega) (by omega) (xor_in _ _).1 (xor_in _ _).2
      refine ⟨v, ?_, hv⟩
      refine Ev.step (fun _ => rfl) ?_
      simp only [spec_SumMore.l1]
      refine Ev.pos (by omega) (Ev.pos h ?_)
      rw [w64 (by omega) (by omega), show (j : Int) + 1 = ((j + 1 : Nat) : Int) by omega]
      exact e
    · obtain ⟨v, e, hv⟩ := ih (j + 1) ((Int.tdiv x 2) % 4294967296) (by omega) (by omega) (by omega) (by omega)
      refine ⟨v, ?_, hv⟩
      refine Ev.step (fun _ => rfl) ?_
      simp only [spec_SumMore.l1]
      refine Ev.pos (by omega) (Ev.neg h ?_)
      rw [w64 (by omega) (by omega), show (j : Int) + 1 = ((j + 1 : Nat) : Int) by omega]
      exact e
theorem sum_ev (s : ByteArray) (hn : s.size ≤ 100000000) : ∀ (d i : Nat) (x : Int), s.size - i = d → i ≤ s.size → 0 ≤ x → x < 4294967296 → ∃ v : Int, Ev (fun k => spec_SumMore.l0 k x s (i : Int)) v ∧ 0 ≤ v ∧ v < 4294967296 := by
  intro d
  induction d with
  | zero =>
    intro i x hd hi h0 h1
    refine ⟨x, ?_, h0, h1⟩
    refine Ev.step (fun _ => rfl) ?_
    simp only [spec_SumMore.l0]
    exact Ev.neg (by omega) (Ev.now _)
  | succ d ih =>
    intro i x hd hi h0 h1
    obtain ⟨v, e, hv⟩ := sum_in_ev s i hn (by omega) (fun y a b => ih (i + 1) y (by omega) (by omega) a b) 8 0 (Go.bits .xor .u32 x ((bt s (i : Int)) % 4294967296)) rfl (by omega) (xor_in _ _).1 (xor_in _ _).2
    refine ⟨v, ?_, hv⟩
    refine Ev.step (fun _ => rfl) ?_
    simp only [spec_SumMore.l0]
    exact Ev.pos (by omega) (Ev.pos (by omega) e)
theorem sumOf_ev (s : ByteArray) (hn : s.size ≤ 100000000) : ∃ v : Int, Ev (fun k => spec_SumOf.f k s) v ∧ Ev (fun k => impl_SumOf.f k s) v ∧ 0 ≤ v ∧ v < 4294967296 := by
  obtain ⟨v, e, h0, h1⟩ := sum_ev s hn s.size 0 4294967295 rfl (by omega) (by omega) (by omega)
  have e' : Ev (fun k => impl_SumMore.f k 4294967295 s) v := by
    unfold impl_SumMore.f
    exact Ev.congr (fun k => (sum_eq k).1 _ _ _ (by omega) (by omega)) e
  exact ⟨v, Ev.bind (show Ev (fun k => spec_SumMore.f k 4294967295 s) v from e) (Ev.now _), Ev.bind e' (Ev.now _), h0, h1⟩
theorem sealed_ev (t : ByteArray) : ∃ (v : ByteArray) (b : Bool), Ev (fun k => spec_Sealed.f k t) (v, b) ∧ Ev (fun k => impl_Sealed.f k t) (v, b) ∧ v.size ≤ t.size + 4 := by
  unfold spec_Sealed.f impl_Sealed.f
  by_cases h : (t.size : Int) > 20000
  · exact ⟨_, _, Ev.pos h (Ev.now _), Ev.pos h (Ev.now _), by show 0 ≤ _; omega⟩
  · obtain ⟨v, e, e', h0, h1⟩ := sumOf_ev t (by omega)
    refine ⟨_, _, Ev.neg h (Ev.bind e (Ev.bindc rfl (Ev.pos ?_ (Ev.now _)))), Ev.neg h (Ev.bind e' ?_), by simp only [ByteArray.size_append, strOfNums_size, List.length_cons, List.length_nil]; omega⟩
    · simp only [strOfNums_size, List.length_cons, List.length_nil]; omega
    · rw [w64 (by omega) (by omega)]
      refine Ev.bindc rfl (Ev.pos ?_ (Ev.now _))
      simp only [strOfNums_size, List.length_cons, List.length_nil]; omega
theorem isPid_of (a : Int) : impl_isPid.f a = spec_l01In.f a 0 2 := by
  show (spec_l01In.f a 0 2).bind (fun t => some t) = _
  cases spec_l01In.f a 0 2 <;> rfl
theorem fj0_eq (k : Nat) (b : Bool) (x0 x1 x2 x3 x4 x5 x6 : Int) : impl_FrameOk.j0 k b x0 x1 x2 x3 x4 x5 x6 = spec_FrameOk.j0 k b x0 x1 x2 x3 x4 x5 x6 := by
  cases k with
  | zero => simp only [impl_FrameOk.j0, spec_FrameOk.j0]
  | succ k => simp only [impl_FrameOk.j0, spec_FrameOk.j0]; rfl
theorem frameOk_eq (k : Nat) (x0 x1 x2 x3 x4 x5 x6 : Int) : impl_FrameOk.f k x0 x1 x2 x3 x4 x5 x6 = spec_FrameOk.f k x0 x1 x2 x3 x4 x5 x6 := by
  unfold impl_FrameOk.f spec_FrameOk.f
  simp only [isPid_of, fj0_eq, within_eq]
theorem frameOk_ev (x0 x1 x2 x3 x4 x5 x6 : Int) : ∃ b : Bool, Ev (fun k => spec_FrameOk.f k x0 x1 x2 x3 x4 x5 x6) b ∧ (b = true → (0 ≤ x1 ∧ x1 ≤ 2) ∧ (1 ≤ x2 ∧ x2 ≤ 1000000000) ∧ 0 ≤ x6 ∧ x6 ≤ 1000000000) := by
  unfold spec_FrameOk.f
  simp only [spec_l01In_of, Option.bind_some]
  by_cases h1 : 0 ≤ x1 ∧ x1 ≤ 2
  · by_cases h2 : 1 ≤ x2 ∧ x2 ≤ 1000000000
    · by_cases h3 : x0 = 1
      · obtain ⟨r, hr, hr'⟩ := item_ok x3 x4 x5 x6
        refine ⟨r, Ev.pos (by simpa using h1) (Ev.step (fun _ => rfl) ?_), fun h => ⟨h1, h2, hr' h⟩⟩
        simp only [spec_FrameOk.j0]
        exact Ev.neg (by simp; omega) (Ev.pos h3 (Ev.bindc hr (Ev.now _)))
      · by_cases h4 : x0 = 2
        · refine ⟨(x3 == 0 && (x4 == 0 && (x5 == 0 && (x6 == 0)))), Ev.pos (by simpa using h1) (Ev.step (fun _ => rfl) ?_), fun h => ⟨h1, h2, ?_⟩⟩
          · simp only [spec_FrameOk.j0]
            exact Ev.neg (by simp; omega) (Ev.neg h3 (Ev.pos h4 (Ev.now _)))
          · simp at h; omega
        · refine ⟨false, Ev.pos (by simpa using h1) (Ev.step (fun _ => rfl) ?_), fun h => by cases h⟩
          simp only [spec_FrameOk.j0]
          exact Ev.neg (by simp; omega) (Ev.neg h3 (Ev.neg h4 (Ev.now _)))
    · refine ⟨false, Ev.pos (by simpa using h1) (Ev.step (fun _ => rfl) ?_), fun h => by cases h⟩
      simp only [spec_FrameOk.j0]
      exact Ev.pos (by simp; omega) (Ev.now _)
  · refine ⟨false, Ev.neg (by simpa using h1) (Ev.step (fun _ => rfl) ?_), fun h => by cases h⟩
    simp only [spec_FrameOk.j0]
    exact Ev.pos (by first | trivial | rfl) (Ev.now _)
theorem frameText_ev (x0 x1 x2 x3 x4 x5 x6 : Int) : ∃ (v : ByteArray) (b : Bool), Ev (fun k => spec_FrameText.f k x0 x1 x2 x3 x4 x5 x6) (v, b) ∧ Ev (fun k => impl_FrameText.f k x0 x1 x2 x3 x4 x5 x6) (v, b) ∧ v.size ≤ 30 := by
  obtain ⟨b, eb, hb⟩ := frameOk_ev x0 x1 x2 x3 x4 x5 x6
  have eb' : Ev (fun k => impl_FrameOk.f k x0 x1 x2 x3 x4 x5 x6) b := Ev.congr (fun k => frameOk_eq k _ _ _ _ _ _ _) eb
  unfold spec_FrameText.f impl_FrameText.f
  cases b with
  | false => exact ⟨_, _, Ev.bind eb (Ev.neg (by simp) (Ev.now _)), Ev.bind eb' (Ev.neg (by simp) (Ev.now _)), by decide⟩
  | true =>
    obtain ⟨_, h2, h6⟩ := hb rfl
    obtain ⟨s, s1, s2, s3⟩ := vars_ev x2 (by omega) (by omega)
    obtain ⟨c, c1, c2, c3⟩ := vars_ev x6 (by omega) (by omega)
    obtain ⟨v, q, q1, q2, q3⟩ := sealed_ev ((((((strOfNums [x0 % 256, x1 % 256]) ++ s) ++ (strOfNums [x3 % 256])) ++ strOfNums [(x4 / 16777216) % 256, (x4 / 65536) % 256, (x4 / 256) % 256, x4 % 256]) ++ strOfNums [(x5 / 16777216) % 256, (x5 / 65536) % 256, (x5 / 256) % 256, x5 % 256]) ++ c)
    refine ⟨v, q, ?_, ?_, by simp only [ByteArray.size_append, strOfNums_size, List.length_cons, List.length_nil] at q3; omega⟩
    · refine Ev.bind eb (Ev.pos rfl (Ev.bindc rfl (Ev.bind s1 (Ev.pos ?_ (Ev.bindc rfl (Ev.pos ?_ (Ev.bindc rfl (Ev.pos ?_ (Ev.bindc rfl (Ev.pos ?_ (Ev.bind c1 (Ev.pos ?_ (Ev.bind q1 (Ev.now _))))))))))))))
      all_goals (simp only [ByteArray.size_append, strOfNums_size, List.length_cons, List.length_nil]; omega)
    · refine Ev.bind eb' (Ev.pos rfl (Ev.bind s2 (Ev.bind c2 (Ev.bindc rfl (Ev.pos ?_ (Ev.bindc rfl (Ev.pos ?_ (Ev.bindc rfl (Ev.pos ?_ (Ev.bindc rfl (Ev.pos ?_ (Ev.pos ?_ (Ev.bind q2 (Ev.now _))))))))))))))
      all_goals (simp only [ByteArray.size_append, strOfNums_size, List.length_cons, List.length_nil]; omega)
theorem entry_ev (x0 x1 x2 x3 x4 x5 : Int) : ∃ v : ByteArray, Ev (fun k => spec_EntryText.f k x0 x1 x2 x3 x4 x5) v ∧ Ev (fun k => impl_EntryText.f k x0 x1 x2 x3 x4 x5) v ∧ v.size ≤ 30 := by
  obtain ⟨v, b, e1, e2, h⟩ := frameText_ev 1 x0 x1 x2 x3 x4 x5
  exact ⟨v, Ev.bind e1 (Ev.now _), Ev.bind e2 (Ev.now _), h⟩
theorem short_ev (t : ByteArray) (h : t.size ≤ 30) : ∃ v : ByteArray, Ev (fun k => spec_l01Var.f k (t.size : Int)) v ∧ Ev (fun k => impl_ShortText.f k t) (v ++ t, true) ∧ v.size ≤ 5 := by
  obtain ⟨v, e1, e2, hs⟩ := vars_ev (t.size : Int) (by omega) (by omega)
  refine ⟨v, e1, ?_, hs⟩
  unfold impl_ShortText.f
  exact Ev.neg (by omega) (Ev.bind e2 (Ev.pos (by dsimp only; omega) (Ev.now _)))
theorem logs_ev (l : List S136) (hl : l.length ≤ 200) : ∀ (d i : Nat) (o : ByteArray), l.length - i = d → i ≤ l.length → o.size ≤ 40 * i →
    ∃ (v : ByteArray) (b : Bool), Ev (fun k => spec_LogText.l0 k l o (i : Int)) (v, b) ∧ Ev (fun k => impl_LogText.l0 k o l (l.length : Int) (i : Int)) (v, b) := by
  intro d
  induction d with
  | zero =>
    intro i o hd hi ho
    refine ⟨o, true, ?_, ?_⟩
    · refine Ev.step (fun _ => rfl) ?_
      simp only [spec_LogText.l0]
      exact Ev.neg (by omega) (Ev.now _)
    · refine Ev.step (fun _ => rfl) ?_
      simp only [impl_LogText.l0]
      exact Ev.neg (by omega) (Ev.now _)
  | succ d ih =>
    intro i o hd hi ho
    have hx : l[i]? = some l[i] := List.getElem?_eq_getElem (by omega)
    obtain ⟨t, e1, e2, ht⟩ := entry_ev l[i].f0 l[i].f1 l[i].f2.f0 l[i].f2.f1 l[i].f2.f2 l[i].f2.f3
    by_cases h : t.toList = ([] : List UInt8)
    · refine ⟨⟨#[]⟩, false, ?_, ?_⟩
      · refine Ev.step (fun _ => rfl) ?_
        simp only [spec_LogText.l0]
        rw [rd136 hx]
        exact Ev.pos (by omega) (Ev.pos (by omega) (Ev.bind e1 (Ev.pos h (Ev.now _))))
      · refine Ev.step (fun _ => rfl) ?_
        simp only [impl_LogText.l0]
        rw [rd136 hx]
        exact Ev.pos (by omega) (Ev.pos (by omega) (Ev.pos (by omega) (Ev.bind e2 (Ev.pos h (Ev.now _)))))
    · obtain ⟨s, s1, s2, hs⟩ := short_ev t ht
      obtain ⟨v, b, h1, h2⟩ := ih (i + 1) ((o ++ s) ++ t) (by omega) (by omega) (by simp only [ByteArray.size_append]; omega)
      refine ⟨v, b, ?_, ?_⟩
      · refine Ev.step (fun _ => rfl) ?_
        simp only [spec_LogText.l0]
        rw [rd136 hx, w64 (x := (i : Int) + 1) (by omega) (by omega), show (i : Int) + 1 = ((i + 1 : Nat) : Int) by omega]
        exact Ev.pos (by omega) (Ev.pos (by omega) (Ev.bind e1 (Ev.neg h (Ev.bind s1 (Ev.pos (by omega) (Ev.pos (by simp only [ByteArray.size_append]; omega) h1))))))
      · refine Ev.step (fun _ => rfl) ?_
        simp only [impl_LogText.l0]
        rw [rd136 hx, w64 (x := (i : Int) + 1) (by omega) (by omega), show (i : Int) + 1 = ((i + 1 : Nat) : Int) by omega]
        rw [ByteArray.append_assoc] at h2
        exact Ev.pos (by omega) (Ev.pos (by omega) (Ev.pos (by omega) (Ev.bind e2 (Ev.neg h (Ev.bind s2 (Ev.pos (by simp only [ByteArray.size_append]; omega) h2))))))
theorem logText_ev (l : List S136) : ∃ (v : ByteArray) (b : Bool), Ev (fun k => spec_LogText.f k l) (v, b) ∧ Ev (fun k => impl_LogText.f k l) (v, b) := by
  unfold spec_LogText.f impl_LogText.f
  by_cases h : (l.length : Int) > 200
  · exact ⟨_, _, Ev.pos h (Ev.now _), Ev.pos h (Ev.now _)⟩
  · obtain ⟨v, b, h1, h2⟩ := logs_ev l (by omega) l.length 0 ⟨#[]⟩ rfl (by omega) (by decide)
    exact ⟨v, b, Ev.neg h h1, Ev.neg h h2⟩
theorem pure : Pure := by
  intro l0 hl
  refine Ev.rounds ?_
  unfold laws_FnExactLogText.f
  obtain ⟨v, hv, h⟩ := szEntryS_of l0 1048576 hl.1 (by omega) (by omega)
  refine Ev.bind (Ev.const hv) ?_
  rcases h with h | ⟨h0, h1, h2⟩
  · exact Ev.pos h (Ev.now _)
  have e1 := toEntryS_ev l0 h2
  have hm : (l0.map cvS177_S136).length ≤ 1048576 := by simpa using h2
  generalize l0.map cvS177_S136 = xs at e1 hm
  obtain ⟨t, b, e2, e3⟩ := logText_ev xs
  have e4 := eqEntryS_ev xs (by omega)
  refine Ev.neg (by omega) (Ev.bind e1 (Ev.bind e2 (Ev.bind e1 (Ev.bind e3 (Ev.pos rfl ?_)))))
  refine Ev.step (fun _ => rfl) ?_
  simp only [laws_FnExactLogText.j0]
  exact Ev.neg (by simp) (Ev.bind e1 (Ev.bind e4 (Ev.pos rfl (Ev.now _))))
end Go.Proofs.Ytfobhfnkjmfbmaa.PFnExactLogText
namespace Go.Proofs.Ytfobhfnkjmfbmaa
/-- The given statement. -/
theorem fnExactLogText_holds : Rows.FnExactLogTextSaid := AFnExactLogText.row PFnExactLogText.pure
#print axioms fnExactLogText_holds
end Go.Proofs.Ytfobhfnkjmfbmaa
