/- laws.FnExactKept returns true at every input, its arguments as they were. No condition. -/
import Derived.Test.YthdeicbkimlnhaaExFnExactKept
import Derived.Test.YthdeicbkimlnhaaArgFnExactKept
set_option linter.unusedVariables false
set_option linter.unusedSimpArgs false
namespace Go.Proofs.Ythdeicbkimlnhaa.PFnExactKept
open Go.RowKit Go.Proofs.YthdeicbkimlnhaaW.PrintWords Go.Proofs.YthdeicbkimlnhaaW.PrintLast Go.Proofs.YthdeicbkimlnhaaL Go.Proofs.YthdeicbkimlnhaaO Go.Proofs.Ythdeicbkimlnhaa.AFnExactKept
theorem i64_of {x : Int} (h : OkN .i64 x) : -9223372036854775808 ≤ x ∧ x ≤ 9223372036854775807 := bounds_i64 h
theorem spec_l20Copy_of (x0 : List S134) (x1 : List Int) (x2 : List S127) (a : Int) (x4 : List Int) (h0 : x0.length ≤ 1048576) (h1 : x1.length ≤ 1048576) (h2 : x2.length ≤ 1048576) (h4 : x4.length ≤ 1048576) : spec_l20Copy.f x0 x1 x2 a x4 = some (x0, x1, x2, a, x4) := by
  unfold spec_l20Copy.f
  simp only [Option.bind_some, List.length_nil, List.nil_append]
  rw [if_pos (by omega), if_pos (by omega), if_pos (by omega), if_pos (by omega)]
theorem impl_copyInts_of (x : List Int) (h : x.length ≤ 1048576) : impl_copyInts.f x = some x := by
  unfold impl_copyInts.f
  simp only [Option.bind_some, List.length_nil, List.nil_append]
  rw [if_pos (by omega)]
theorem impl_copyKeeper_of (x0 : List S134) (x1 : List Int) (x2 : List S127) (a : Int) (x4 : List Int) (h0 : x0.length ≤ 1048576) (h1 : x1.length ≤ 1048576) (h2 : x2.length ≤ 1048576) (h4 : x4.length ≤ 1048576) : impl_copyKeeper.f x0 x1 x2 a x4 = some (x0, x1, x2, a, x4) := by
  unfold impl_copyKeeper.f
  rw [impl_copyInts_of x1 h1, impl_copyInts_of x4 h4]
  simp only [Option.bind_some, List.length_nil, List.nil_append]
  rw [if_pos (by omega), if_pos (by omega)]
theorem spec_l01In_of (x lo hi : Int) : spec_l01In.f x lo hi = some (decide (lo ≤ x ∧ x ≤ hi)) := by
  unfold spec_l01In.f
  rw [ite_some]; congr 1; rw [Bool.eq_iff_iff]
  by_cases h : x ≥ lo <;> simp [h] <;> omega
theorem item_ok (a b c d : Int) : ∃ r : Bool, spec_ItemOk.f a b c d = some r ∧ (r = true → 0 ≤ d ∧ d ≤ 1000000000) := by
  unfold spec_ItemOk.f spec_HalfOk.f
  simp only [spec_l01In_of, Option.bind_some]
  by_cases h1 : a = 1
  · rw [if_pos h1]
    by_cases h2 : 0 ≤ b ∧ b ≤ 4294967295
    · rw [if_pos (by simpa using h2)]
      by_cases h3 : 0 ≤ c ∧ c ≤ 4294967295
      · rw [if_pos (by simpa using h3)]; exact ⟨_, rfl, fun h => by have := beq_iff_eq.1 h; omega⟩
      · rw [if_neg (by simpa using h3)]; exact ⟨_, rfl, fun h => by cases h⟩
    · rw [if_neg (by simpa using h2)]; exact ⟨_, rfl, fun h => by cases h⟩
  · rw [if_neg h1]
    by_cases h2 : a = 2
    · rw [if_pos h2]
      by_cases h3 : 1 ≤ d ∧ d ≤ 1000000000
      · rw [if_pos (by simpa using h3)]
        by_cases h4 : b = 0
        · rw [if_pos h4]; exact ⟨_, rfl, fun _ => by omega⟩
        · rw [if_neg h4]; exact ⟨_, rfl, fun h => by cases h⟩
      · rw [if_neg (by simpa using h3)]; exact ⟨_, rfl, fun h => by cases h⟩
    · rw [if_neg h2]; exact ⟨_, rfl, fun h => by cases h⟩
theorem within_eq (x lo hi : Int) : impl_within.f x lo hi = spec_l01In.f x lo hi := rfl
theorem isPid_of (a : Int) : impl_isPid.f a = spec_l01In.f a 0 2 := by
  show (spec_l01In.f a 0 2).bind (fun t => some t) = _
  cases spec_l01In.f a 0 2 <;> rfl
theorem fj0_eq (k : Nat) (b : Bool) (x0 x1 x2 x3 x4 x5 x6 : Int) : impl_FrameOk.j0 k b x0 x1 x2 x3 x4 x5 x6 = spec_FrameOk.j0 k b x0 x1 x2 x3 x4 x5 x6 := by
  cases k with
  | zero => simp only [impl_FrameOk.j0, spec_FrameOk.j0]
  | succ k => simp only [impl_FrameOk.j0, spec_FrameOk.j0]; rfl
theorem frameOk_eq (k : Nat) (x0 x1 x2 x3 x4 x5 x6 : Int) : impl_FrameOk.f k x0 x1 x2 x3 x4 x5 x6 = spec_FrameOk.f k x0 x1 x2 x3 x4 x5 x6 := by
  unfold impl_FrameOk.f spec_FrameOk.f
  simp only [isPid_of, fj0_eq, within_eq]
theorem frameOk_ev (x0 x1 x2 x3 x4 x5 x6 : Int) : ∃ b : Bool, Ev (fun k => spec_FrameOk.f k x0 x1 x2 x3 x4 x5 x6) b ∧ (b = true → (0 ≤ x1 ∧ x1 ≤ 2) ∧ (1 ≤ x2 ∧ x2 ≤ 1000000000) ∧ 0 ≤ x6 ∧ x6 ≤ 1000000000) := by
  unfold spec_FrameOk.f
  simp only [spec_l01In_of, Option.bind_some]
  by_cases h1 : 0 ≤ x1 ∧ x1 ≤ 2
  · by_cases h2 : 1 ≤ x2 ∧ x2 ≤ 1000000000
    · by_cases h3 : x0 = 1
      · obtain ⟨r, hr, hr'⟩ := item_ok x3 x4 x5 x6
        refine ⟨r, Ev.pos (by simpa using h1) (Ev.step (fun _ => rfl) ?_), fun h => ⟨h1, h2, hr' h⟩⟩
        simp only [spec_FrameOk.j0]
        exact Ev.neg (by simp; omega) (Ev.pos h3 (Ev.bindc hr (Ev.now _)))
      · by_cases h4 : x0 = 2
        · refine ⟨(x3 == 0 && (x4 == 0 && (x5 == 0 && (x6 == 0)))), Ev.pos (by simpa using h1) (Ev.step (fun _ => rfl) ?_), fun h => ⟨h1, h2, ?_⟩⟩
          · simp only [spec_FrameOk.j0]
            exact Ev.neg (by simp; omega) (Ev.neg h3 (Ev.pos h4 (Ev.now _)))
          · simp at h; omega
        · refine ⟨false, Ev.pos (by simpa using h1) (Ev.step (fun _ => rfl) ?_), fun h => by cases h⟩
          simp only [spec_FrameOk.j0]
          exact Ev.neg (by simp; omega) (Ev.neg h3 (Ev.neg h4 (Ev.now _)))
    · refine ⟨false, Ev.pos (by simpa using h1) (Ev.step (fun _ => rfl) ?_), fun h => by cases h⟩
      simp only [spec_FrameOk.j0]
      exact Ev.pos (by simp; omega) (Ev.now _)
  · refine ⟨false, Ev.neg (by simpa using h1) (Ev.step (fun _ => rfl) ?_), fun h => by cases h⟩
    simp only [spec_FrameOk.j0]
    exact Ev.pos (by first | trivial | rfl) (Ev.now _)
/-- Where it stands among what came early. -/
theorem early_ev (E : List S127) (hE : E.length ≤ 1048577) (p s : Int) : ∀ (d i : Nat), E.length - i = d → i ≤ E.length → ∃ t : Int, Ev (fun k => spec_l20Early.l0 k E p s (i : Int)) t ∧ Ev (fun k => impl_earlyAt.l0 k p s E (E.length : Int) (i : Int)) t ∧
    (t = -1 ∨ ∃ (j : Nat) (x : S127), t = j ∧ E[j]? = some x ∧ x.f0 = p ∧ x.f1 = s) := by
  intro d
  induction d with
  | zero =>
    intro i hd hi
    refine ⟨-1, Ev.step (fun _ => rfl) ?_, Ev.step (fun _ => rfl) ?_, .inl rfl⟩
    · simp only [spec_l20Early.l0]; exact Ev.neg (by omega) (Ev.now _)
    · simp only [impl_earlyAt.l0]; exact Ev.neg (by omega) (Ev.now _)
  | succ d ih =>
    intro i hd hi
    have hx : E[i]? = some E[i] := List.getElem?_eq_getElem (by omega)
    by_cases h : E[i].f0 = p ∧ E[i].f1 = s
    · refine ⟨(i : Int), Ev.step (fun _ => rfl) ?_, Ev.step (fun _ => rfl) ?_, .inr ⟨i, E[i], rfl, hx, h.1, h.2⟩⟩
      · simp only [spec_l20Early.l0]; rw [rd127 hx]
        exact Ev.pos (by omega) (Ev.pos (by omega) (Ev.pos h.1 (Ev.pos h.2 (Ev.now _))))
      · simp only [impl_earlyAt.l0]; rw [rd127 hx]
        exact Ev.pos (by omega) (Ev.pos (by omega) (Ev.pos (by omega) (Ev.pos h.1 (Ev.pos h.2 (Ev.now _)))))
    · obtain ⟨t, t1, t2, t3⟩ := ih (i + 1) (by omega) (by omega)
      refine ⟨t, Ev.step (fun _ => rfl) ?_, Ev.step (fun _ => rfl) ?_, t3⟩
      · simp only [spec_l20Early.l0]; rw [rd127 hx, w64 (x := (i : Int) + 1) (by omega) (by omega), show (i : Int) + 1 = ((i + 1 : Nat) : Int) by omega]
        exact Ev.pos (by omega) (Ev.pos (by omega) (Ev.both (fun h1 => Ev.neg (fun h2 => h ⟨h1, h2⟩) t1) (fun _ => t1)))
      · simp only [impl_earlyAt.l0]; rw [rd127 hx, w64 (x := (i : Int) + 1) (by omega) (by omega), show (i : Int) + 1 = ((i + 1 : Nat) : Int) by omega]
        exact Ev.pos (by omega) (Ev.pos (by omega) (Ev.pos (by omega) (Ev.both (fun h1 => Ev.neg (fun h2 => h ⟨h1, h2⟩) t2) (fun _ => t2))))
theorem earlyAt_ev (E : List S127) (hE : E.length ≤ 1048577) (p s : Int) : ∃ t : Int, Ev (fun k => spec_l20Early.f k E p s) t ∧ Ev (fun k => impl_earlyAt.f k E p s) t ∧
    (t = -1 ∨ ∃ (j : Nat) (x : S127), t = j ∧ E[j]? = some x ∧ x.f0 = p ∧ x.f1 = s) := early_ev E hE p s E.length 0 rfl (by omega)
theorem rd_set (N : List Int) (p v : Int) (h0 : 0 ≤ p) (h1 : p < (N.length : Int)) : rd (N.set p.toNat v) p = v := by
  unfold rd
  rw [List.getD_eq_getElem?_getD, List.getElem?_set_self (by omega)]; rfl
abbrev KR := List S134 × List Int × List S127 × Int × List Int × Bool
/-- The loop: what came early follows. -/
theorem keptLoop (p s q0 q1 q2 q3 kd : Int) (a : Int) (N A : List Int) (h0 : 0 ≤ p) (h1 : p < (N.length : Int)) : ∀ (d : Nat) (L : List S134) (E : List S127) (x : Int), 200 - L.length = d → L.length ≤ 200 → E.length ≤ 1048577 →
    ∃ r : KR, Ev (fun k => spec_Kept.l0 k x kd p s q0 q1 q2 q3 L N E a A) r ∧ Ev (fun k => impl_Kept.l0 k kd p s q0 q1 q2 q3 L (N.set p.toNat x) E a A) r ∧
      r.1.length ≤ 200 ∧ r.2.1.length = N.length ∧ r.2.2.1.length ≤ E.length ∧ r.2.2.2.1 = a ∧ r.2.2.2.2.1 = A := by
  intro d
  induction d with
  | zero =>
    intro L E x hd hl hE
    refine ⟨(L, N.set p.toNat x, E, a, A, true), Ev.step (fun _ => rfl) ?_, Ev.step (fun _ => rfl) ?_, by omega, by simp, Nat.le_refl _, rfl, rfl⟩
    · simp only [spec_Kept.l0]; exact Ev.neg (by omega) (Ev.pos h0 (Ev.pos h1 (Ev.now _)))
    · simp only [impl_Kept.l0]; exact Ev.neg (by omega) (Ev.now _)
  | succ d ih =>
    intro L E x hd hl hE
    obtain ⟨t, t1, t2, t3⟩ := earlyAt_ev E hE p x
    rcases t3 with rfl | ⟨j, y, rfl, hy, hp, hs⟩
    · refine ⟨(L, N.set p.toNat x, E, a, A, true), Ev.step (fun _ => rfl) ?_, Ev.step (fun _ => rfl) ?_, by omega, by simp, Nat.le_refl _, rfl, rfl⟩
      · simp only [spec_Kept.l0]; exact Ev.pos (by omega) (Ev.bind t1 (Ev.pos (by omega) (Ev.pos h0 (Ev.pos h1 (Ev.now _)))))
      · simp only [impl_Kept.l0]; rw [rd_set N p x h0 h1]
        exact Ev.pos (by omega) (Ev.pos h0 (Ev.pos (by simp; omega) (Ev.bind t2 (Ev.pos (by omega) (Ev.now _)))))
    · have hj := (List.getElem?_eq_some_iff.1 hy).1
      obtain ⟨r, r1, r2, r3, r4, r5, r6, r7⟩ := ih (L ++ [⟨p, x, ⟨y.f2.f0, y.f2.f1, y.f2.f2, y.f2.f3⟩⟩]) (E.eraseIdx j) (wrap64 (x + 1)) (by simp; omega) (by simp; omega) (by rw [List.length_eraseIdx]; split <;> omega)
      have hlen : (E.eraseIdx j).length ≤ E.length := by rw [List.length_eraseIdx]; split <;> omega
      refine ⟨r, Ev.step (fun _ => rfl) ?_, Ev.step (fun _ => rfl) ?_, r3, r4, by omega, r6, r7⟩
      · simp only [spec_Kept.l0]
        have e : (E.take j ++ E.drop (j + 1)) = E.eraseIdx j := (List.eraseIdx_eq_take_drop_succ E j).symm
        refine Ev.pos (by omega) (Ev.bind t1 ?_)
        rw [rd127 hy]
        simp -implicitDefEqProofs only [Option.bind_some, List.nil_append, Int.toNat_natCast]
        rw [w64 (x := (j : Int) + 1) (by omega) (by omega), show ((j : Int) + 1).toNat = j + 1 by omega, e]
        refine Ev.neg (by omega) (Ev.pos (by omega) (Ev.pos (by omega) (Ev.pos (by omega) (Ev.pos (by omega) (Ev.pos (by simp; omega) (Ev.pos (by omega) (Ev.pos (by omega) (Ev.pos (by simp; omega) r1))))))))
      · simp only [impl_Kept.l0]
        rw [rd_set N p x h0 h1]
        refine Ev.pos (by omega) (Ev.pos h0 (Ev.pos (by simp; omega) (Ev.bind t2 ?_)))
        rw [rd127 hy, hp, hs, List.set_set, w64 (x := (j : Int) + 1) (by omega) (by omega), Int.toNat_natCast]
        exact Ev.neg (by omega) (Ev.pos (by omega) (Ev.pos (by omega) (Ev.pos (by omega) (Ev.pos (by omega) (Ev.pos (by omega) (Ev.pos (by omega) r2))))))
theorem kj_false (x0 : List S134) (x1 : List Int) (x2 : List S127) (a : Int) (x4 : List Int) (kd p s q0 q1 q2 q3 : Int) :
    Ev (fun k => spec_Kept.j0 k true x0 x1 x2 a x4 kd p s q0 q1 q2 q3 x0 x1 x2 a x4) (x0, x1, x2, a, x4, false) ∧ Ev (fun k => impl_Kept.j0 k true x0 x1 x2 a x4 kd p s q0 q1 q2 q3 x0 x1 x2 a x4) (x0, x1, x2, a, x4, false) := by
  refine ⟨Ev.step (fun _ => rfl) ?_, Ev.step (fun _ => rfl) ?_⟩
  · simp only [spec_Kept.j0]; exact Ev.pos (by first | trivial | rfl) (Ev.now _)
  · simp only [impl_Kept.j0]; exact Ev.pos (by first | trivial | rfl) (Ev.now _)
theorem kept_ev (x0 : List S134) (x1 : List Int) (x2 : List S127) (a : Int) (x4 : List Int) (kd p s q0 q1 q2 q3 : Int) (h0 : x0.length ≤ 1048576) (h1 : x1.length ≤ 1048576) (h2 : x2.length ≤ 1048576) (h4 : x4.length ≤ 1048576)
    (hb : ∀ v ∈ x1, -9223372036854775808 ≤ v ∧ v ≤ 9223372036854775807) :
    ∃ r : KR, Ev (fun k => spec_Kept.f k x0 x1 x2 a x4 kd p s q0 q1 q2 q3) r ∧ Ev (fun k => impl_Kept.f k x0 x1 x2 a x4 kd p s q0 q1 q2 q3) r ∧
      r.1.length ≤ 1048576 ∧ r.2.1.length ≤ 1048576 ∧ r.2.2.1.length ≤ 1048577 ∧ r.2.2.2.2.1.length ≤ 1048576 := by
  obtain ⟨b, f1, f2⟩ := frameOk_ev kd p s q0 q1 q2 q3
  have f3 : Ev (fun k => impl_FrameOk.f k kd p s q0 q1 q2 q3) b := Ev.congr (fun k => frameOk_eq k kd p s q0 q1 q2 q3) f1
  have sp : ∀ (f : Nat → Option KR) r, (∀ k, f k = if b = true then (if kd = 1 then (if p ≥ (x1.length : Int) then (spec_Kept.j0 k true x0 x1 x2 a x4 kd p s q0 q1 q2 q3 x0 x1 x2 a x4) else (spec_Kept.j0 k (decide ((x0.length : Int) ≥ 200)) x0 x1 x2 a x4 kd p s q0 q1 q2 q3 x0 x1 x2 a x4)) else (spec_Kept.j0 k true x0 x1 x2 a x4 kd p s q0 q1 q2 q3 x0 x1 x2 a x4)) else (spec_Kept.j0 k true x0 x1 x2 a x4 kd p s q0 q1 q2 q3 x0 x1 x2 a x4)) → Ev f r → Ev (fun k => spec_Kept.f k x0 x1 x2 a x4 kd p s q0 q1 q2 q3) r := by
    intro f r hf hr
    unfold spec_Kept.f
    exact Ev.bindc (spec_l20Copy_of x0 x1 x2 a x4 h0 h1 h2 h4) (Ev.bind f1 (Ev.congr (fun k => (hf k).symm) hr))
  have im : ∀ (f : Nat → Option KR) r, (∀ k, f k = if b = true then (if kd = 1 then (if p ≥ (x1.length : Int) then (impl_Kept.j0 k true x0 x1 x2 a x4 kd p s q0 q1 q2 q3 x0 x1 x2 a x4) else (impl_Kept.j0 k (decide ((x0.length : Int) ≥ 200)) x0 x1 x2 a x4 kd p s q0 q1 q2 q3 x0 x1 x2 a x4)) else (impl_Kept.j0 k true x0 x1 x2 a x4 kd p s q0 q1 q2 q3 x0 x1 x2 a x4)) else (impl_Kept.j0 k true x0 x1 x2 a x4 kd p s q0 q1 q2 q3 x0 x1 x2 a x4)) → Ev f r → Ev (fun k => impl_Kept.f k x0 x1 x2 a x4 kd p s q0 q1 q2 q3) r := by
    intro f r hf hr
    unfold impl_Kept.f
    exact Ev.bindc (impl_copyKeeper_of x0 x1 x2 a x4 h0 h1 h2 h4) (Ev.bind f3 (Ev.congr (fun k => (hf k).symm) hr))
  obtain ⟨z1, z2⟩ := kj_false x0 x1 x2 a x4 kd p s q0 q1 q2 q3
  cases b with
  | false => exact ⟨_, sp _ _ (fun _ => rfl) (Ev.neg (by simp) z1), im _ _ (fun _ => rfl) (Ev.neg (by simp) z2), h0, h1, Nat.le_trans h2 (by decide), h4⟩
  | true =>
    obtain ⟨hp, hs, _⟩ := f2 rfl
    by_cases hk : kd = 1
    · by_cases hq : p ≥ (x1.length : Int)
      · exact ⟨_, sp _ _ (fun _ => rfl) (Ev.pos rfl (Ev.pos hk (Ev.pos hq z1))), im _ _ (fun _ => rfl) (Ev.pos rfl (Ev.pos hk (Ev.pos hq z2))), h0, h1, Nat.le_trans h2 (by decide), h4⟩
      · by_cases h200 : (x0.length : Int) ≥ 200
        · rw [← decide_eq_true h200] at z1 z2
          exact ⟨_, sp _ _ (fun _ => rfl) (Ev.pos rfl (Ev.pos hk (Ev.neg hq z1))), im _ _ (fun _ => rfl) (Ev.pos rfl (Ev.pos hk (Ev.neg hq z2))), h0, h1, Nat.le_trans h2 (by decide), h4⟩
        · have hj : ∃ r : KR, Ev (fun k => spec_Kept.j0 k false x0 x1 x2 a x4 kd p s q0 q1 q2 q3 x0 x1 x2 a x4) r ∧ Ev (fun k => impl_Kept.j0 k false x0 x1 x2 a x4 kd p s q0 q1 q2 q3 x0 x1 x2 a x4) r ∧
              r.1.length ≤ 1048576 ∧ r.2.1.length ≤ 1048576 ∧ r.2.2.1.length ≤ 1048577 ∧ r.2.2.2.2.1.length ≤ 1048576 := by
            have hv : -9223372036854775808 ≤ rd x1 p ∧ rd x1 p ≤ 9223372036854775807 := by
              have hx : x1[p.toNat]? = some x1[p.toNat] := List.getElem?_eq_getElem (by omega)
              have : rd x1 p = x1[p.toNat] := by unfold rd; exact get_of x1 0 hx
              rw [this]; exact hb _ (List.getElem_mem _)
            by_cases hn : s = rd x1 p
            · obtain ⟨r, r1, r2, r3, r4, r5, r6, r7⟩ := keptLoop p s q0 q1 q2 q3 kd a x1 x4 hp.1 (by omega) _ (x0 ++ [⟨p, s, ⟨q0, q1, q2, q3⟩⟩]) x2 (wrap64 (rd x1 p + 1)) rfl (by simp; omega) (by omega)
              refine ⟨r, Ev.step (fun _ => rfl) ?_, Ev.step (fun _ => rfl) ?_, by omega, by omega, by omega, by rw [r7]; exact h4⟩
              · simp only [spec_Kept.j0]
                exact Ev.neg (by simp) (Ev.pos hp.1 (Ev.pos (by omega) (Ev.pos hn (Ev.pos (by omega) r1))))
              · simp only [impl_Kept.j0]
                exact Ev.neg (by simp) (Ev.pos hp.1 (Ev.pos (by omega) (Ev.pos hn (Ev.pos (by omega) (Ev.pos (by omega) r2)))))
            · obtain ⟨t, t1, t2, t3⟩ := earlyAt_ev x2 (by omega) p s
              have w1 : wrap64 (s - 3) = s - 3 := w64 (by omega) (by omega)
              -- what both come to behind the tests
              have hz : ∀ r : KR, ((if s > rd x1 p then (if s - 3 ≤ rd x1 p then (if t < 0 then (if (x2.length : Int) < 3 then (some (x0, x1, (x2 ++ [(⟨p, s, ⟨q0, q1, q2, q3⟩⟩ : S127)]), a, x4, false)) else (some (x0, x1, x2, a, x4, false))) else (some (x0, x1, x2, a, x4, false))) else (some (x0, x1, x2, a, x4, false))) else (some (x0, x1, x2, a, x4, false))) : Option KR) = some r →
                  Ev (fun k => spec_Kept.j0 k false x0 x1 x2 a x4 kd p s q0 q1 q2 q3 x0 x1 x2 a x4) r ∧ Ev (fun k => impl_Kept.j0 k false x0 x1 x2 a x4 kd p s q0 q1 q2 q3 x0 x1 x2 a x4) r := by
                intro r hr
                by_cases hg : s > rd x1 p
                · have w2 : wrap64 (rd x1 p + 3) = rd x1 p + 3 := w64 (by omega) (by omega)
                  rw [if_pos hg] at hr
                  by_cases hl : s - 3 ≤ rd x1 p
                  · rw [if_pos hl] at hr
                    refine ⟨Ev.step (fun _ => rfl) ?_, Ev.step (fun _ => rfl) ?_⟩
                    · simp only [spec_Kept.j0]; rw [w1]
                      refine Ev.neg (by simp) (Ev.pos hp.1 (Ev.pos (by omega) (Ev.neg hn (Ev.pos hg (Ev.pos hl (Ev.bind t1 (Ev.const ?_)))))))
                      rw [← hr]
                      split
                      · split
                        · rw [if_pos (by omega)]
                        · rfl
                      · rfl
                    · simp only [impl_Kept.j0]; rw [w2]
                      refine Ev.neg (by simp) (Ev.pos hp.1 (Ev.pos (by omega) (Ev.neg hn (Ev.pos hg (Ev.pos (by omega) (Ev.bind t2 (Ev.const ?_)))))))
                      rw [← hr]
                      split
                      · split
                        · rw [if_pos (by omega)]
                        · rfl
                      · rfl
                  · rw [if_neg hl] at hr
                    refine ⟨Ev.step (fun _ => rfl) ?_, Ev.step (fun _ => rfl) ?_⟩
                    · simp only [spec_Kept.j0]; rw [w1]
                      exact Ev.neg (by simp) (Ev.pos hp.1 (Ev.pos (by omega) (Ev.neg hn (Ev.pos hg (Ev.neg hl (Ev.const hr))))))
                    · simp only [impl_Kept.j0]; rw [w2]
                      exact Ev.neg (by simp) (Ev.pos hp.1 (Ev.pos (by omega) (Ev.neg hn (Ev.pos hg (Ev.neg (by omega) (Ev.const hr))))))
                · rw [if_neg hg] at hr
                  refine ⟨Ev.step (fun _ => rfl) ?_, Ev.step (fun _ => rfl) ?_⟩
                  · simp only [spec_Kept.j0]
                    exact Ev.neg (by simp) (Ev.pos hp.1 (Ev.pos (by omega) (Ev.neg hn (Ev.neg hg (Ev.const hr)))))
                  · simp only [impl_Kept.j0]
                    exact Ev.neg (by simp) (Ev.pos hp.1 (Ev.pos (by omega) (Ev.neg hn (Ev.neg hg (Ev.const hr)))))
              by_cases hall : s > rd x1 p ∧ s - 3 ≤ rd x1 p ∧ t < 0 ∧ (x2.length : Int) < 3
              · obtain ⟨c1, c2, c3, c4⟩ := hall
                obtain ⟨y1, y2⟩ := hz _ (by rw [if_pos c1, if_pos c2, if_pos c3, if_pos c4])
                exact ⟨_, y1, y2, h0, h1, by simp; omega, h4⟩
              · obtain ⟨y1, y2⟩ := hz (x0, x1, x2, a, x4, false) (by
                  split
                  · split
                    · split
                      · split
                        · exact absurd ⟨by assumption, by assumption, by assumption, by assumption⟩ hall
                        · rfl
                      · rfl
                    · rfl
                  · rfl)
                exact ⟨_, y1, y2, h0, h1, Nat.le_trans h2 (by decide), h4⟩
          obtain ⟨r, r1, r2, r3⟩ := hj
          rw [← decide_eq_false h200] at r1 r2
          exact ⟨r, sp _ _ (fun _ => rfl) (Ev.pos rfl (Ev.pos hk (Ev.neg hq r1))), im _ _ (fun _ => rfl) (Ev.pos rfl (Ev.pos hk (Ev.neg hq r2))), r3⟩
    · exact ⟨_, sp _ _ (fun _ => rfl) (Ev.pos rfl (Ev.neg hk z1)), im _ _ (fun _ => rfl) (Ev.pos rfl (Ev.neg hk z2)), h0, h1, Nat.le_trans h2 (by decide), h4⟩
theorem toFrame_of (a b c d e f g : Int) : laws_toFrame.f a b c d e f g = some (a, b, c, d, e, f, g) := rfl
theorem pure : Pure := by
  intro l0 l1 l2 a l4 kd p s q0 q1 q2 q3 h0 h1 h2 ha h4 _ _ _ _ _ _ _
  refine Ev.rounds ?_
  unfold laws_FnExactKept.f
  obtain ⟨v, hv, h⟩ := szKeeper_of l0 l1 l2 a l4 1048576 h0.1 h1.1 h2.1 h4.1 (by omega) (by omega)
  refine Ev.bind (Ev.const hv) ?_
  rcases h with h | ⟨k0, k1, n0, n1, n2, n4⟩
  · exact Ev.pos h (Ev.now _)
  have e1 := toKeeper_ev l0 l1 l2 a l4 n0 n1 n2 n4
  have hb1 : ∀ v ∈ (l1.map (fun x : Int => x)), -9223372036854775808 ≤ v ∧ v ≤ 9223372036854775807 := by
    intro v hv
    simp at hv
    exact i64_of (h1.2 v hv)
  have m0 : (l0.map cvS175_S134).length ≤ 1048576 := by simpa using n0
  have m2 : (l2.map cvS177_S127).length ≤ 1048576 := by simpa using n2
  have m1 : (l1.map (fun x : Int => x)).length ≤ 1048576 := by simpa using n1
  have m4 : (l4.map (fun x : Int => x)).length ≤ 1048576 := by simpa using n4
  generalize l0.map cvS175_S134 = x0 at e1 m0
  generalize l2.map cvS177_S127 = x2 at e1 m2
  generalize l1.map (fun x : Int => x) = x1 at e1 m1 hb1
  generalize l4.map (fun x : Int => x) = x4 at e1 m4
  obtain ⟨⟨g0, g1, g2, g3, g4, gb⟩, e2, e3, p0, p1, p2, p4⟩ := kept_ev x0 x1 x2 a x4 kd p s q0 q1 q2 q3 m0 m1 m2 m4 hb1
  replace p0 : g0.length ≤ 1048576 := p0
  replace p1 : g1.length ≤ 1048576 := p1
  replace p2 : g2.length ≤ 1048577 := p2
  replace p4 : g4.length ≤ 1048576 := p4
  have et := toFrame_of kd p s q0 q1 q2 q3
  have e4 := eqKeeper_ev x0 x1 x2 a x4 (by omega) (by omega) (by omega) (by omega)
  have e5 := eqKeeper_ev g0 g1 g2 g3 g4 (by omega) (by omega) (by omega) (by omega)
  have c0 : mcount ctS134 x0 ≤ 6300000 := by rw [mcount_const ctS134 6 (fun _ => rfl)]; omega
  have c1 : mcount ctInt x1 ≤ 1048576 := by rw [mcount_const ctInt 1 (fun _ => rfl)]; omega
  have c2 : mcount ctS127 x2 ≤ 6300000 := by rw [mcount_const ctS127 6 (fun _ => rfl)]; omega
  have c4 : mcount ctInt x4 ≤ 1048576 := by rw [mcount_const ctInt 1 (fun _ => rfl)]; omega
  have d0 : mcount ctS134 g0 ≤ 6300000 := by rw [mcount_const ctS134 6 (fun _ => rfl)]; omega
  have d1 : mcount ctInt g1 ≤ 1048576 := by rw [mcount_const ctInt 1 (fun _ => rfl)]; omega
  have d2 : mcount ctS127 g2 ≤ 6300000 := by rw [mcount_const ctS127 6 (fun _ => rfl)]; omega
  have d4 : mcount ctInt g4 ≤ 1048576 := by rw [mcount_const ctInt 1 (fun _ => rfl)]; omega
  have e6 := markKeeper_ev x0 x1 x2 a x4 1 (by omega) (by omega) (by omega) (by omega) (by omega) (by omega)
  have e7 := markKeeper_ev g0 g1 g2 g3 g4 1 (by omega) (by omega) (by omega) (by omega) (by omega) (by omega)
  have e8 := heldKeeper_ev g0 g1 g2 g3 g4 1 (by omega) (by omega) (by omega) (by omega) (by omega) (by omega)
  repeat (first
    | (with_reducible refine Ev.bind e1 ?_; try dsimp only)
    | (with_reducible refine Ev.bindc et ?_; try dsimp only)
    | (with_reducible refine Ev.bind e2 ?_; try dsimp only)
    | (with_reducible refine Ev.bind e3 ?_; try dsimp only)
    | (with_reducible refine Ev.bind e4 ?_; try dsimp only)
    | (with_reducible refine Ev.bind e5 ?_; try dsimp only)
    | (with_reducible refine Ev.bind e6 ?_; try dsimp only)
    | (with_reducible refine Ev.bind e7 ?_; try dsimp only)
    | (with_reducible refine Ev.bind e8 ?_; try dsimp only)
    | (refine Ev.neg (by omega) ?_)
    | (refine Ev.pos (by first | rfl | omega) ?_)
    | (refine Ev.neg (by simp) ?_)
    | (refine Ev.step (fun _ => rfl) ?_; simp only [laws_FnExactKept.j0, laws_FnExactKept.j1, laws_FnExactKept.j2])
    | exact Ev.now _)
end Go.Proofs.Ythdeicbkimlnhaa.PFnExactKept
namespace Go.Proofs.Ythdeicbkimlnhaa
/-- The given statement. -/
theorem fnExactKept_holds : Rows.FnExactKeptSaid := AFnExactKept.row PFnExactKept.pure
#print axioms fnExactKept_holds
end Go.Proofs.Ythdeicbkimlnhaa
