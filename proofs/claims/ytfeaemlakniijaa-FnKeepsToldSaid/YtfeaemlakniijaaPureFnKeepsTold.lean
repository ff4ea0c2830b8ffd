/- laws.FnKeepsTold returns true at every input. No condition. -/
import Derived.Test.YtfeaemlakniijaaExFnKeepsTold
import Derived.Test.YtfeaemlakniijaaArgFnKeepsTold
set_option linter.unusedVariables false
set_option linter.unusedSimpArgs false
namespace Go.Proofs.Ytfeaemlakniijaa.PFnKeepsTold
open Go.RowKit Go.Proofs.YtfeaemlakniijaaA Go.Proofs.YtfeaemlakniijaaL Go.Proofs.Ytfeaemlakniijaa.AFnKeepsTold
theorem i64_of {x : Int} (h : OkN .i64 x) : -9223372036854775808 ≤ x ∧ x ≤ 9223372036854775807 := bounds_i64 h
theorem rd97 {l : List S97} {i : Nat} {x : S97} (h : l[i]? = some x) : rd_T97 l (i : Int) = x := by
  unfold rd_T97; simpa using get_of l z97 h
theorem rd98 {l : List S98} {i : Nat} {x : S98} (h : l[i]? = some x) : rd_T98 l (i : Int) = x := by
  unfold rd_T98; simpa using get_of l z98 h
theorem itemok_eq (a b c d : Int) : impl_ItemOk.f a b c d = spec_ItemOk.f a b c d := rfl
def itemOk (x : S34) : Bool := decide ((x.f0 = 1 ∧ (0 ≤ x.f1 ∧ x.f1 ≤ 4294967295) ∧ (0 ≤ x.f2 ∧ x.f2 ≤ 4294967295) ∧ x.f3 = 0) ∨ (x.f0 = 2 ∧ (1 ≤ x.f3 ∧ x.f3 ≤ 1000000000) ∧ x.f1 = 0 ∧ x.f2 = 0))
theorem spec_l01In_of (x lo hi : Int) : spec_l01In.f x lo hi = some (decide (lo ≤ x ∧ x ≤ hi)) := by
  unfold spec_l01In.f
  rw [ite_some]; congr 1; rw [Bool.eq_iff_iff]
  by_cases h : x ≥ lo <;> simp [h] <;> omega
theorem spec_ItemOk_of (x : S34) : spec_ItemOk.f x.f0 x.f1 x.f2 x.f3 = some (itemOk x) := by
  unfold spec_ItemOk.f itemOk spec_HalfOk.f
  simp only [spec_l01In_of, Option.bind_some, ite_some]
  congr 1; rw [Bool.eq_iff_iff]
  by_cases h1 : x.f0 = 1
  · simp [h1]
  · by_cases h2 : x.f0 = 2 <;> simp [h1, h2]
theorem impl_ItemOk_of (x : S34) : impl_ItemOk.f x.f0 x.f1 x.f2 x.f3 = some (itemOk x) := (itemok_eq _ _ _ _).trans (spec_ItemOk_of x)
theorem spec_l20Copy_of (x0 : List S98) (x1 : List Int) (x2 : List S97) (a : Int) (x4 : List Int) (h0 : x0.length ≤ 1048576) (h1 : x1.length ≤ 1048576) (h2 : x2.length ≤ 1048576) (h4 : x4.length ≤ 1048576) : spec_l20Copy.f x0 x1 x2 a x4 = some (x0, x1, x2, a, x4) := by
  unfold spec_l20Copy.f
  simp only [Option.bind_some, List.length_nil, List.nil_append]
  rw [if_pos (by omega), if_pos (by omega), if_pos (by omega), if_pos (by omega)]
theorem impl_copyInts_of (x : List Int) (h : x.length ≤ 1048576) : impl_copyInts.f x = some x := by
  unfold impl_copyInts.f
  simp only [Option.bind_some, List.length_nil, List.nil_append]
  rw [if_pos (by omega)]
theorem impl_copyKeeper_of (x0 : List S98) (x1 : List Int) (x2 : List S97) (a : Int) (x4 : List Int) (h0 : x0.length ≤ 1048576) (h1 : x1.length ≤ 1048576) (h2 : x2.length ≤ 1048576) (h4 : x4.length ≤ 1048576) : impl_copyKeeper.f x0 x1 x2 a x4 = some (x0, x1, x2, a, x4) := by
  unfold impl_copyKeeper.f
  rw [impl_copyInts_of x1 h1, impl_copyInts_of x4 h4]
  simp only [Option.bind_some, List.length_nil, List.nil_append]
  rw [if_pos (by omega), if_pos (by omega)]
theorem item_ok (a b c d : Int) : ∃ r : Bool, spec_ItemOk.f a b c d = some r ∧ (r = true → 0 ≤ d ∧ d ≤ 1000000000) := by
  unfold spec_ItemOk.f spec_HalfOk.f
  simp only [spec_l01In_of, Option.bind_some]
  by_cases h1 : a = 1
  · rw [if_pos h1]
    by_cases h2 : 0 ≤ b ∧ b ≤ 4294967295
    · rw [if_pos (by simpa using h2)]
      by_cases h3 : 0 ≤ c ∧ c ≤ 4294967295
      · rw [if_pos (by simpa using h3)]; exact ⟨_, rfl, fun h => by have := beq_iff_eq.1 h; omega⟩
      · rw [if_neg (by simpa using h3)]; exact ⟨_, rfl, fun h => by cases h⟩
    · rw [if_neg (by simpa using h2)]; exact ⟨_, rfl, fun h => by cases h⟩
  · rw [if_neg h1]
    by_cases h2 : a = 2
    · rw [if_pos h2]
      by_cases h3 : 1 ≤ d ∧ d ≤ 1000000000
      · rw [if_pos (by simpa using h3)]
        by_cases h4 : b = 0
        · rw [if_pos h4]; exact ⟨_, rfl, fun _ => by omega⟩
        · rw [if_neg h4]; exact ⟨_, rfl, fun h => by cases h⟩
      · rw [if_neg (by simpa using h3)]; exact ⟨_, rfl, fun h => by cases h⟩
    · rw [if_neg h2]; exact ⟨_, rfl, fun h => by cases h⟩
theorem within_eq (x lo hi : Int) : impl_within.f x lo hi = spec_l01In.f x lo hi := rfl
theorem isPid_of (a : Int) : impl_isPid.f a = spec_l01In.f a 0 2 := by
  show (spec_l01In.f a 0 2).bind (fun t => some t) = _
  cases spec_l01In.f a 0 2 <;> rfl
theorem frameOk_eq (x0 x1 x2 x3 x4 x5 x6 : Int) : impl_FrameOk.f x0 x1 x2 x3 x4 x5 x6 = spec_FrameOk.f x0 x1 x2 x3 x4 x5 x6 := by
  unfold impl_FrameOk.f spec_FrameOk.f
  rw [isPid_of]; rfl
theorem frameOk_of (x0 x1 x2 x3 x4 x5 x6 : Int) : ∃ b : Bool, spec_FrameOk.f x0 x1 x2 x3 x4 x5 x6 = some b ∧ (b = true → (0 ≤ x1 ∧ x1 ≤ 2) ∧ (1 ≤ x2 ∧ x2 ≤ 1000000000) ∧ 0 ≤ x6 ∧ x6 ≤ 1000000000) := by
  unfold spec_FrameOk.f
  simp only [spec_l01In_of, Option.bind_some]
  by_cases h1 : 0 ≤ x1 ∧ x1 ≤ 2
  · rw [if_pos (by simpa using h1)]
    by_cases h2 : 1 ≤ x2 ∧ x2 ≤ 1000000000
    · rw [if_pos (by simpa using h2)]
      by_cases h3 : x0 = 1
      · obtain ⟨r, hr, hr'⟩ := item_ok x3 x4 x5 x6
        rw [if_pos h3, hr]
        exact ⟨r, rfl, fun h => ⟨h1, h2, hr' h⟩⟩
      · rw [if_neg h3]
        by_cases h4 : x0 = 2
        · rw [if_pos h4]
          refine ⟨_, rfl, fun h => ⟨h1, h2, ?_⟩⟩
          simp at h; omega
        · rw [if_neg h4]; exact ⟨_, rfl, fun h => by cases h⟩
    · rw [if_neg (by simpa using h2)]; exact ⟨_, rfl, fun h => by cases h⟩
  · rw [if_neg (by simpa using h1)]; exact ⟨_, rfl, fun h => by cases h⟩
theorem rd_set (N : List Int) (p v : Int) (h0 : 0 ≤ p) (h1 : p < (N.length : Int)) : rd (N.set p.toNat v) p = v := by
  unfold rd
  rw [List.getD_eq_getElem?_getD, List.getElem?_set_self (by omega)]; rfl
/-- Where it stands among what came early. -/
theorem early_ev (E : List S97) (hE : E.length ≤ 1048577) (p s : Int) : ∀ (d i : Nat), E.length - i = d → i ≤ E.length → ∃ t : Int, Ev (fun k => spec_l20Early.l0 k E p s (i : Int)) t ∧ Ev (fun k => impl_earlyAt.l0 k E p s (i : Int)) t ∧
    (t = -1 ∨ ∃ (j : Nat) (x : S97), t = j ∧ E[j]? = some x ∧ x.f0 = p ∧ x.f1 = s) := by
  intro d
  induction d with
  | zero =>
    intro i hd hi
    refine ⟨-1, Ev.step (fun _ => rfl) ?_, Ev.step (fun _ => rfl) ?_, .inl rfl⟩
    · simp only [spec_l20Early.l0]; exact Ev.neg (by omega) (Ev.now _)
    · simp only [impl_earlyAt.l0]; exact Ev.neg (by omega) (Ev.now _)
  | succ d ih =>
    intro i hd hi
    have hx : E[i]? = some E[i] := List.getElem?_eq_getElem (by omega)
    by_cases h : E[i].f0 = p ∧ E[i].f1 = s
    · refine ⟨(i : Int), Ev.step (fun _ => rfl) ?_, Ev.step (fun _ => rfl) ?_, .inr ⟨i, E[i], rfl, hx, h.1, h.2⟩⟩
      · simp only [spec_l20Early.l0]; rw [rd97 hx]
        exact Ev.pos (by omega) (Ev.pos (by omega) (Ev.pos h.1 (Ev.pos h.2 (Ev.now _))))
      · simp only [impl_earlyAt.l0]; rw [rd97 hx]
        exact Ev.pos (by omega) (Ev.pos (by omega) (Ev.pos h.1 (Ev.pos h.2 (Ev.now _))))
    · obtain ⟨t, t1, t2, t3⟩ := ih (i + 1) (by omega) (by omega)
      refine ⟨t, Ev.step (fun _ => rfl) ?_, Ev.step (fun _ => rfl) ?_, t3⟩
      · simp only [spec_l20Early.l0]; rw [rd97 hx, w64 (x := (i : Int) + 1) (by omega) (by omega), show (i : Int) + 1 = ((i + 1 : Nat) : Int) by omega]
        exact Ev.pos (by omega) (Ev.pos (by omega) (Ev.both (fun h1 => Ev.neg (fun h2 => h ⟨h1, h2⟩) t1) (fun _ => t1)))
      · simp only [impl_earlyAt.l0]; rw [rd97 hx, w64 (x := (i : Int) + 1) (by omega) (by omega), show (i : Int) + 1 = ((i + 1 : Nat) : Int) by omega]
        exact Ev.pos (by omega) (Ev.pos (by omega) (Ev.both (fun h1 => Ev.neg (fun h2 => h ⟨h1, h2⟩) t2) (fun _ => t2)))
theorem earlyAt_ev (E : List S97) (hE : E.length ≤ 1048577) (p s : Int) : ∃ t : Int, Ev (fun k => spec_l20Early.f k E p s) t ∧ Ev (fun k => impl_earlyAt.f k E p s) t ∧
    (t = -1 ∨ ∃ (j : Nat) (x : S97), t = j ∧ E[j]? = some x ∧ x.f0 = p ∧ x.f1 = s) := early_ev E hE p s E.length 0 rfl (by omega)
theorem wrap_rng (x : Int) : -9223372036854775808 ≤ wrap64 x ∧ wrap64 x ≤ 9223372036854775807 := by unfold wrap64; omega
abbrev KR := List S98 × List Int × List S97 × Int × List Int × Bool
def I64s (l : List Int) : Prop := ∀ v ∈ l, -9223372036854775808 ≤ v ∧ v ≤ 9223372036854775807
theorem I64s.set {l : List Int} (h : I64s l) (i : Nat) {v : Int} (hv : -9223372036854775808 ≤ v ∧ v ≤ 9223372036854775807) : I64s (l.set i v) := by
  intro u hu
  rcases List.mem_or_eq_of_mem_set hu with hu | rfl
  · exact h u hu
  · exact hv
/-- The loop: what came early follows. -/
theorem keptLoop (p s q0 q1 q2 q3 kd : Int) (a : Int) (N A : List Int) (c0 : List S98) (c2 : List S97) (h0 : 0 ≤ p) (h1 : p < (N.length : Int)) : ∀ (d : Nat) (L : List S98) (E : List S97) (x : Int), 200 - L.length = d → L.length ≤ 200 → E.length ≤ 1048577 → -9223372036854775808 ≤ x ∧ x ≤ 9223372036854775807 →
    ∃ r : KR, Ev (fun k => spec_Kept.l0 k kd p s q0 q1 q2 q3 (c0, N, c2, a, A) L E x) r ∧ Ev (fun k => impl_Kept.l0 k kd p s q0 q1 q2 q3 (c0, N, c2, a, A) L (N.set p.toNat x) E) r ∧
      r.1.length ≤ 200 ∧ (∃ y, r.2.1 = N.set p.toNat y ∧ -9223372036854775808 ≤ y ∧ y ≤ 9223372036854775807) ∧ r.2.2.1.length ≤ E.length ∧ r.2.2.2.1 = a ∧ r.2.2.2.2.1 = A := by
  intro d
  have j1 : ∀ (L : List S98) (E : List S97) (x : Int), Ev (fun k => spec_Kept.j1 k kd p s q0 q1 q2 q3 (c0, N, c2, a, A) L E x) (L, N.set p.toNat x, E, a, A, true) := fun L E x => by
    refine Ev.step (fun _ => rfl) ?_
    simp only [spec_Kept.j1]; exact Ev.pos h1 (Ev.now _)
  induction d with
  | zero =>
    intro L E x hd hl hE hx
    refine ⟨(L, N.set p.toNat x, E, a, A, true), Ev.step (fun _ => rfl) ?_, Ev.step (fun _ => rfl) ?_, by omega, ⟨x, rfl, hx⟩, Nat.le_refl _, rfl, rfl⟩
    · simp only [spec_Kept.l0]; exact Ev.neg (by omega) (j1 _ _ _)
    · simp only [impl_Kept.l0]; exact Ev.neg (by omega) (Ev.now _)
  | succ d ih =>
    intro L E x hd hl hE hx
    obtain ⟨t, t1, t2, t3⟩ := earlyAt_ev E hE p x
    rcases t3 with rfl | ⟨j, y, rfl, hy, hp, hs⟩
    · refine ⟨(L, N.set p.toNat x, E, a, A, true), Ev.step (fun _ => rfl) ?_, Ev.step (fun _ => rfl) ?_, by omega, ⟨x, rfl, hx⟩, Nat.le_refl _, rfl, rfl⟩
      · simp only [spec_Kept.l0]; exact Ev.pos (by omega) (Ev.bind t1 (Ev.pos (by omega) (j1 _ _ _)))
      · simp only [impl_Kept.l0]; rw [rd_set N p x h0 h1]
        exact Ev.pos (by omega) (Ev.pos (by simp; omega) (Ev.bind t2 (Ev.pos (by omega) (Ev.now _))))
    · have hj := (List.getElem?_eq_some_iff.1 hy).1
      obtain ⟨r, r1, r2, r3, r4, r5, r6, r7⟩ := ih (L ++ [⟨p, x, ⟨y.f2.f0, y.f2.f1, y.f2.f2, y.f2.f3⟩⟩]) (E.eraseIdx j) (wrap64 (x + 1)) (by simp; omega) (by simp; omega) (by rw [List.length_eraseIdx]; split <;> omega) (wrap_rng _)
      have hlen : (E.eraseIdx j).length ≤ E.length := by rw [List.length_eraseIdx]; split <;> omega
      have e : (E.take j ++ E.drop (j + 1)) = E.eraseIdx j := (List.eraseIdx_eq_take_drop_succ E j).symm
      have l1 : (E.take j).length ≤ E.length := by rw [List.length_take]; omega
      have l2 : (E.drop (j + 1)).length ≤ E.length := by rw [List.length_drop]; omega
      refine ⟨r, Ev.step (fun _ => rfl) ?_, Ev.step (fun _ => rfl) ?_, r3, r4, by omega, r6, r7⟩
      · simp only [spec_Kept.l0]
        refine Ev.pos (by omega) (Ev.bind t1 ?_)
        rw [rd97 hy]
        simp -implicitDefEqProofs only [List.nil_append, Int.toNat_natCast]
        rw [w64 (x := (j : Int) + 1) (by omega) (by omega), show ((j : Int) + 1).toNat = j + 1 by omega, e]
        refine Ev.neg (by omega) (Ev.pos (by omega) (Ev.pos (by omega) (Ev.pos (by simp only [List.length_cons, List.length_nil]; omega) (Ev.pos (by omega) (Ev.pos (by simp only [List.length_nil]; omega) (Ev.pos (by omega) (Ev.pos (by omega) (Ev.pos (by omega) r1))))))))
      · simp only [impl_Kept.l0]
        rw [rd_set N p x h0 h1]
        refine Ev.pos (by omega) (Ev.pos (by simp; omega) (Ev.bind t2 ?_))
        rw [rd97 hy, hp, hs, List.set_set, w64 (x := (j : Int) + 1) (by omega) (by omega), Int.toNat_natCast, show ((j : Int) + 1).toNat = j + 1 by omega, e]
        exact Ev.neg (by omega) (Ev.pos (by omega) (Ev.pos (by omega) (Ev.pos (by omega) (Ev.pos (by omega) (Ev.pos (by omega) (Ev.pos (by omega) (Ev.pos (by simp only [List.length_cons, List.length_nil]; omega) r2)))))))
/-- What the result keeps of the keeper. -/
def KB (x0 : List S98) (x1 : List Int) (x2 : List S97) (x4 : List Int) (r : KR) : Prop := (r.1.length ≤ x0.length ∨ r.1.length ≤ 200) ∧ r.2.1.length = x1.length ∧ I64s r.2.1 ∧ r.2.2.1.length ≤ x2.length + 1 ∧ r.2.2.2.2.1 = x4
theorem kept_ev (x0 : List S98) (x1 : List Int) (x2 : List S97) (a : Int) (x4 : List Int) (kd p s q0 q1 q2 q3 : Int) (h0 : x0.length ≤ 1048576) (h1 : x1.length ≤ 1048576) (h2 : x2.length ≤ 1048576) (h4 : x4.length ≤ 1048576)
    (hb : I64s x1) :
    ∃ r : KR, Ev (fun k => spec_Kept.f k x0 x1 x2 a x4 kd p s q0 q1 q2 q3) r ∧ Ev (fun k => impl_Kept.f k x0 x1 x2 a x4 kd p s q0 q1 q2 q3) r ∧ KB x0 x1 x2 x4 r := by
  obtain ⟨b, f1, f2⟩ := frameOk_of kd p s q0 q1 q2 q3
  have f3 : impl_FrameOk.f kd p s q0 q1 q2 q3 = some b := (frameOk_eq kd p s q0 q1 q2 q3).trans f1
  have same : ∀ ok : Bool, KB x0 x1 x2 x4 (x0, x1, x2, a, x4, ok) := fun ok => ⟨.inl (Nat.le_refl _), rfl, hb, Nat.le_succ _, rfl⟩
  have c1 := spec_l20Copy_of x0 x1 x2 a x4 h0 h1 h2 h4
  have c2 := impl_copyKeeper_of x0 x1 x2 a x4 h0 h1 h2 h4
  unfold spec_Kept.f impl_Kept.f
  cases b with
  | false => exact ⟨_, Ev.bindc c1 (Ev.bindc f1 (Ev.neg (by simp) (Ev.now _))), Ev.bindc c2 (Ev.bindc f3 (Ev.neg (by simp) (Ev.now _))), same _⟩
  | true =>
    obtain ⟨hp, hs, _⟩ := f2 rfl
    by_cases hk : kd = 1
    · by_cases hq : p ≥ (x1.length : Int)
      · exact ⟨_, Ev.bindc c1 (Ev.bindc f1 (Ev.pos rfl (Ev.pos hk (Ev.pos hq (Ev.now _))))), Ev.bindc c2 (Ev.bindc f3 (Ev.pos rfl (Ev.pos hk (Ev.pos hq (Ev.now _))))), same _⟩
      · by_cases h200 : (x0.length : Int) ≥ 200
        · exact ⟨_, Ev.bindc c1 (Ev.bindc f1 (Ev.pos rfl (Ev.pos hk (Ev.neg hq (Ev.pos h200 (Ev.now _)))))), Ev.bindc c2 (Ev.bindc f3 (Ev.pos rfl (Ev.pos hk (Ev.neg hq (Ev.pos h200 (Ev.now _)))))), same _⟩
        · have hv : -9223372036854775808 ≤ rd x1 p ∧ rd x1 p ≤ 9223372036854775807 := by
            have hx : x1[p.toNat]? = some x1[p.toNat] := List.getElem?_eq_getElem (by omega)
            have : rd x1 p = x1[p.toNat] := by unfold rd; exact get_of x1 0 hx
            rw [this]; exact hb _ (List.getElem_mem _)
          by_cases hn : s = rd x1 p
          · obtain ⟨r, r1, r2, r3, ⟨y, r4, r4'⟩, r5, r6, r7⟩ := keptLoop p s q0 q1 q2 q3 kd a x1 x4 x0 x2 hp.1 (by omega) _ (x0 ++ [⟨p, s, ⟨q0, q1, q2, q3⟩⟩]) x2 (wrap64 (rd x1 p + 1)) rfl (by simp; omega) (by omega) (wrap_rng _)
            refine ⟨r, Ev.bindc c1 (Ev.bindc f1 (Ev.pos rfl (Ev.pos hk (Ev.neg hq (Ev.neg h200 (Ev.pos hp.1 (Ev.pos (by omega) (Ev.pos hn (Ev.pos (by simp only [List.length_cons, List.length_nil]; omega) r1))))))))), Ev.bindc c2 (Ev.bindc f3 (Ev.pos rfl (Ev.pos hk (Ev.neg hq (Ev.neg h200 (Ev.pos hp.1 (Ev.pos (by omega) (Ev.pos hn (Ev.pos (by simp only [List.length_cons, List.length_nil]; omega) (Ev.pos (by dsimp only; omega) r2)))))))))), .inr r3, by rw [r4, List.length_set], by rw [r4]; exact hb.set _ r4', by omega, r7⟩
          · obtain ⟨t, t1, t2, t3⟩ := earlyAt_ev x2 (by omega) p s
            have w1 : wrap64 (s - 3) = s - 3 := w64 (by omega) (by omega)
            have jF : Ev (fun k => spec_Kept.j0 k kd p s q0 q1 q2 q3 (x0, x1, x2, a, x4) false) (x0, x1, x2, a, x4, false) ∧ Ev (fun k => impl_Kept.j0 k kd p s q0 q1 q2 q3 (x0, x1, x2, a, x4) false) (x0, x1, x2, a, x4, false) :=
              ⟨Ev.step (fun _ => rfl) (by simp only [spec_Kept.j0]; exact Ev.neg (by simp) (Ev.now _)), Ev.step (fun _ => rfl) (by simp only [impl_Kept.j0]; exact Ev.neg (by simp) (Ev.now _))⟩
            have jb : ∀ b : Bool, ∃ r : KR, Ev (fun k => spec_Kept.j0 k kd p s q0 q1 q2 q3 (x0, x1, x2, a, x4) b) r ∧ Ev (fun k => impl_Kept.j0 k kd p s q0 q1 q2 q3 (x0, x1, x2, a, x4) b) r ∧ KB x0 x1 x2 x4 r := by
              intro b
              cases b with
              | false => exact ⟨_, jF.1, jF.2, same _⟩
              | true =>
                exact ⟨(x0, x1, x2 ++ [⟨p, s, ⟨q0, q1, q2, q3⟩⟩], a, x4, false), Ev.step (fun _ => rfl) (by simp only [spec_Kept.j0]; exact Ev.pos (by first | trivial | rfl) (Ev.pos (by simp only [List.length_cons, List.length_nil]; omega) (Ev.now _))), Ev.step (fun _ => rfl) (by simp only [impl_Kept.j0]; exact Ev.pos (by first | trivial | rfl) (Ev.pos (by simp only [List.length_cons, List.length_nil]; omega) (Ev.now _))), .inl (Nat.le_refl _), rfl, hb, by simp, rfl⟩
            have lift : ∀ {F G : Nat → Option KR} {r : KR}, Ev F r → Ev G r → KB x0 x1 x2 x4 r → True := fun _ _ _ => trivial
            by_cases hg : s > rd x1 p
            · have w2 : wrap64 (rd x1 p + 3) = rd x1 p + 3 := w64 (by omega) (by omega)
              by_cases hl : s - 3 ≤ rd x1 p
              · by_cases ht : t < 0
                · obtain ⟨r, r1, r2, r3⟩ := jb (decide ((x2.length : Int) < 3))
                  exact ⟨r, Ev.bindc c1 (Ev.bindc f1 (Ev.pos rfl (Ev.pos hk (Ev.neg hq (Ev.neg h200 (Ev.pos hp.1 (Ev.pos (by omega) (Ev.neg hn (Ev.pos hg (Ev.pos (by rw [w1]; exact hl) (Ev.bind t1 (Ev.pos ht r1)))))))))))), Ev.bindc c2 (Ev.bindc f3 (Ev.pos rfl (Ev.pos hk (Ev.neg hq (Ev.neg h200 (Ev.pos hp.1 (Ev.pos (by omega) (Ev.neg hn (Ev.pos hg (Ev.pos (by rw [w2]; omega) (Ev.bind t2 (Ev.pos ht r2)))))))))))), r3⟩
                · exact ⟨_, Ev.bindc c1 (Ev.bindc f1 (Ev.pos rfl (Ev.pos hk (Ev.neg hq (Ev.neg h200 (Ev.pos hp.1 (Ev.pos (by omega) (Ev.neg hn (Ev.pos hg (Ev.pos (by rw [w1]; exact hl) (Ev.bind t1 (Ev.neg ht jF.1)))))))))))), Ev.bindc c2 (Ev.bindc f3 (Ev.pos rfl (Ev.pos hk (Ev.neg hq (Ev.neg h200 (Ev.pos hp.1 (Ev.pos (by omega) (Ev.neg hn (Ev.pos hg (Ev.pos (by rw [w2]; omega) (Ev.bind t2 (Ev.neg ht jF.2)))))))))))), same _⟩
              · exact ⟨_, Ev.bindc c1 (Ev.bindc f1 (Ev.pos rfl (Ev.pos hk (Ev.neg hq (Ev.neg h200 (Ev.pos hp.1 (Ev.pos (by omega) (Ev.neg hn (Ev.pos hg (Ev.neg (by rw [w1]; exact hl) jF.1)))))))))), Ev.bindc c2 (Ev.bindc f3 (Ev.pos rfl (Ev.pos hk (Ev.neg hq (Ev.neg h200 (Ev.pos hp.1 (Ev.pos (by omega) (Ev.neg hn (Ev.pos hg (Ev.neg (by rw [w2]; omega) jF.2)))))))))), same _⟩
            · exact ⟨_, Ev.bindc c1 (Ev.bindc f1 (Ev.pos rfl (Ev.pos hk (Ev.neg hq (Ev.neg h200 (Ev.pos hp.1 (Ev.pos (by omega) (Ev.neg hn (Ev.neg hg jF.1))))))))), Ev.bindc c2 (Ev.bindc f3 (Ev.pos rfl (Ev.pos hk (Ev.neg hq (Ev.neg h200 (Ev.pos hp.1 (Ev.pos (by omega) (Ev.neg hn (Ev.neg hg jF.2))))))))), same _⟩
    · exact ⟨_, Ev.bindc c1 (Ev.bindc f1 (Ev.pos rfl (Ev.neg hk (Ev.now _)))), Ev.bindc c2 (Ev.bindc f3 (Ev.pos rfl (Ev.neg hk (Ev.now _)))), same _⟩
theorem within_of (x lo hi : Int) : impl_within.f x lo hi = some (decide (lo ≤ x ∧ x ≤ hi)) := spec_l01In_of x lo hi
theorem isPid_dec (a : Int) : impl_isPid.f a = some (decide (0 ≤ a ∧ a ≤ 2)) := by
  unfold impl_isPid.f
  rw [within_of]; rfl
abbrev En := S98
abbrev Er := S97
theorem rd_get (c : List Int) (p : Int) (h0 : 0 ≤ p) (h1 : p < (c.length : Int)) : ∃ h : p.toNat < c.length, rd c p = c[p.toNat] := by
  have h : p.toNat < c.length := by omega
  exact ⟨h, by unfold rd; exact get_of c 0 (List.getElem?_eq_getElem h)⟩
theorem rd_mem (c : List Int) (p : Int) (h0 : 0 ≤ p) (h1 : p < (c.length : Int)) : rd c p ∈ c := by
  obtain ⟨h, e⟩ := rd_get c p h0 h1
  rw [e]; exact List.getElem_mem h
theorem rd_set_ne (N : List Int) (p q v : Int) (h0 : 0 ≤ p) (h1 : 0 ≤ q) (h : p ≠ q) : rd (N.set p.toNat v) q = rd N q := by
  unfold rd
  rw [List.getD_eq_getElem?_getD, List.getD_eq_getElem?_getD, List.getElem?_set_ne (by omega)]
def okE (e : En) : Bool := decide (0 ≤ e.f0 ∧ e.f0 ≤ 2) && itemOk e.f2
def bump (c : List Int) (p : Int) : List Int := c.set p.toNat (rd c p + 1)
def good : List En → List Int → Bool
  | [], _ => true
  | e :: L, c => okE e && (e.f1 == rd c e.f0 + 1) && good L (bump c e.f0)
def bumps : List En → List Int → List Int
  | [], c => c
  | e :: L, c => bumps L (bump c e.f0)
def Bd (c : List Int) (i : Nat) : Prop := c.length = 3 ∧ ∀ v ∈ c, 0 ≤ v ∧ v ≤ (i : Int)
theorem Bd.up {c : List Int} {i j : Nat} (h : Bd c i) (hij : i ≤ j) : Bd c j := ⟨h.1, fun v hv => by have := h.2 v hv; omega⟩
theorem Bd.rd {c : List Int} {i : Nat} (h : Bd c i) {p : Int} (h0 : 0 ≤ p) (h1 : p ≤ 2) : 0 ≤ rd c p ∧ rd c p ≤ (i : Int) := h.2 _ (rd_mem c p h0 (by have := h.1; omega))
theorem Bd.bump {c : List Int} {i : Nat} (h : Bd c i) {p : Int} (h0 : 0 ≤ p) (h1 : p ≤ 2) : Bd (bump c p) (i + 1) := by
  refine ⟨by simpa [PFnKeepsTold.bump] using h.1, fun v hv => ?_⟩
  rcases List.mem_or_eq_of_mem_set hv with hv | rfl
  · have := h.2 v hv; omega
  · have := h.rd h0 h1; omega
theorem bd0 : Bd (List.replicate 3 0) 0 := ⟨rfl, fun v hv => by have := List.eq_of_mem_replicate hv; omega⟩
theorem okE_pid {e : En} (h : okE e = true) : 0 ≤ e.f0 ∧ e.f0 ≤ 2 := by
  unfold okE at h; rw [Bool.and_eq_true] at h; simpa using h.1
theorem good_cons (e : En) (L : List En) (c : List Int) : good (e :: L) c = true ↔ okE e = true ∧ e.f1 = rd c e.f0 + 1 ∧ good L (bump c e.f0) = true := by
  simp [good, and_assoc]
theorem good_app (X Y : List En) : ∀ c, good (X ++ Y) c = true ↔ good X c = true ∧ good Y (bumps X c) = true := by
  induction X with
  | nil => intro c; simp [good, bumps]
  | cons e X ih => intro c; rw [List.cons_append, good_cons, good_cons, ih]; simp [bumps, and_assoc]
theorem bumps_app (X Y : List En) : ∀ c, bumps (X ++ Y) c = bumps Y (bumps X c) := by
  induction X with
  | nil => intro c; rfl
  | cons e X ih => intro c; exact ih _
theorem bumps_bd (L : List En) : ∀ (c : List Int) (i : Nat), good L c = true → Bd c i → Bd (bumps L c) (i + L.length) := by
  induction L with
  | nil => intro c i _ h; simpa [bumps] using h
  | cons e L ih =>
    intro c i hg h
    obtain ⟨h1, _, h3⟩ := (good_cons _ _ _).1 hg
    obtain ⟨p0, p1⟩ := okE_pid h1
    have := ih _ _ h3 (h.bump p0 p1)
    exact this.up (by simp; omega)
theorem bumps_le (L : List En) : ∀ (c : List Int) (i : Nat), good L c = true → Bd c i → ∀ p, 0 ≤ p → p ≤ 2 → rd c p ≤ rd (bumps L c) p := by
  induction L with
  | nil => intro c i _ h p _ _; exact Int.le_refl _
  | cons e L ih =>
    intro c i hg h p q0 q1
    obtain ⟨h1, _, h3⟩ := (good_cons _ _ _).1 hg
    obtain ⟨p0, p1⟩ := okE_pid h1
    have h4 := ih _ _ h3 (h.bump p0 p1) p q0 q1
    refine Int.le_trans ?_ h4
    unfold bump
    by_cases hp : e.f0 = p
    · rw [hp, rd_set c p _ q0 (by have := h.1; omega)]; omega
    · rw [rd_set_ne c _ _ _ p0 q0 hp]; exact Int.le_refl _
theorem counts_ev (L : List En) (n : Nat) (hn : n ≤ L.length) (hL : L.length ≤ 1048576) : ∀ (d i : Nat) (c : List Int), n - i = d → i ≤ n → Bd c i →
    ∃ c', Ev (fun k => spec_l20Counts.l0 k L (n : Int) c (i : Int)) (c', good ((L.take n).drop i) c) ∧ (good ((L.take n).drop i) c = true → c' = bumps ((L.take n).drop i) c) := by
  intro d
  induction d with
  | zero =>
    intro i c hd hi hB
    have e0 : (L.take n).drop i = [] := List.drop_eq_nil_of_le (by simp; omega)
    rw [e0]
    refine ⟨c, Ev.step (fun _ => rfl) ?_, fun _ => rfl⟩
    simp only [spec_l20Counts.l0]; exact Ev.neg (by omega) (Ev.now _)
  | succ d ih =>
    intro i c hd hi hB
    have hx : L[i]? = some L[i] := List.getElem?_eq_getElem (by omega)
    have e0 : (L.take n).drop i = L[i] :: (L.take n).drop (i + 1) := by
      rw [List.drop_eq_getElem_cons (by simp; omega), List.getElem_take]
    rw [e0]
    generalize L[i] = e at hx
    by_cases hp : 0 ≤ e.f0 ∧ e.f0 ≤ 2
    · have hr := hB.rd hp.1 hp.2
      by_cases hs : e.f1 = rd c e.f0 + 1
      · cases ho : itemOk e.f2 with
        | true =>
          obtain ⟨c', h1, h2⟩ := ih (i + 1) (bump c e.f0) (by omega) (by omega) (hB.bump hp.1 hp.2)
          have hg : good (e :: (L.take n).drop (i + 1)) c = good ((L.take n).drop (i + 1)) (bump c e.f0) := by simp [good, okE, hp, hs, ho]
          rw [hg]
          refine ⟨c', Ev.step (fun _ => rfl) ?_, h2⟩
          simp only [spec_l20Counts.l0]; rw [rd98 hx, w64 (x := rd c e.f0 + 1) (by omega) (by omega), w64 (x := (i : Int) + 1) (by omega) (by omega), show (i : Int) + 1 = ((i + 1 : Nat) : Int) by omega]
          exact Ev.pos (by omega) (Ev.pos (by omega) (Ev.pos (by omega) (Ev.bindc (spec_l01In_of _ _ _) (Ev.pos (by simpa using hp) (Ev.pos hp.1 (Ev.pos (by have := hB.1; omega) (Ev.pos hs (Ev.bindc (spec_ItemOk_of e.f2) (Ev.pos ho h1)))))))))
        | false =>
          have hg : good (e :: (L.take n).drop (i + 1)) c = false := by simp [good, okE, ho]
          rw [hg]
          refine ⟨c, Ev.step (fun _ => rfl) ?_, fun h => by cases h⟩
          simp only [spec_l20Counts.l0]; rw [rd98 hx, w64 (x := rd c e.f0 + 1) (by omega) (by omega)]
          exact Ev.pos (by omega) (Ev.pos (by omega) (Ev.pos (by omega) (Ev.bindc (spec_l01In_of _ _ _) (Ev.pos (by simpa using hp) (Ev.pos hp.1 (Ev.pos (by have := hB.1; omega) (Ev.pos hs (Ev.bindc (spec_ItemOk_of e.f2) (Ev.neg (by simp [ho]) (Ev.now _))))))))))
      · have hg : good (e :: (L.take n).drop (i + 1)) c = false := by simp [good, hs]
        rw [hg]
        refine ⟨c, Ev.step (fun _ => rfl) ?_, fun h => by cases h⟩
        simp only [spec_l20Counts.l0]; rw [rd98 hx, w64 (x := rd c e.f0 + 1) (by omega) (by omega)]
        exact Ev.pos (by omega) (Ev.pos (by omega) (Ev.pos (by omega) (Ev.bindc (spec_l01In_of _ _ _) (Ev.pos (by simpa using hp) (Ev.pos hp.1 (Ev.pos (by have := hB.1; omega) (Ev.neg hs (Ev.now _))))))))
    · have hg : good (e :: (L.take n).drop (i + 1)) c = false := by simp [good, okE, hp]
      rw [hg]
      refine ⟨c, Ev.step (fun _ => rfl) ?_, fun h => by cases h⟩
      simp only [spec_l20Counts.l0]; rw [rd98 hx]
      exact Ev.pos (by omega) (Ev.pos (by omega) (Ev.pos (by omega) (Ev.bindc (spec_l01In_of _ _ _) (Ev.neg (by simpa using hp) (Ev.now _)))))
/-- What the program's own counting tells, in one pass. -/
theorem many_ev (L : List En) (N : List Int) (E : List Er) (s : Int) (A : List Int) (hs0 : 0 ≤ s) (hs1 : s ≤ (L.length : Int)) (hL : L.length ≤ 1048576) : ∀ (d i : Nat) (c c5 : List Int), L.length - i = d → i ≤ L.length → Bd c i → Bd c5 i →
    (good (L.drop i) c = false → Ev (fun k => impl_KeeperOk.l1 k L N E s A c c5 (i : Int)) false) ∧
    (good (L.drop i) c = true → ∀ r, Ev (fun k => impl_KeeperOk.l2 k L N E s A (bumps (L.drop i) c) (bumps ((L.take s.toNat).drop i) c5) 0) r → Ev (fun k => impl_KeeperOk.l1 k L N E s A c c5 (i : Int)) r) := by
  intro d
  induction d with
  | zero =>
    intro i c c5 hd hi hB hB5
    have e0 : L.drop i = [] := List.drop_eq_nil_of_le (by omega)
    have e1 : (L.take s.toNat).drop i = [] := List.drop_eq_nil_of_le (by simp; omega)
    rw [e0, e1]
    refine ⟨fun h => absurd h (by simp [good]), fun _ r hr => Ev.step (fun _ => rfl) ?_⟩
    simp only [impl_KeeperOk.l1]; exact Ev.neg (by omega) hr
  | succ d ih =>
    intro i c c5 hd hi hB hB5
    have hx : L[i]? = some L[i] := List.getElem?_eq_getElem (by omega)
    have e0 : L.drop i = L[i] :: L.drop (i + 1) := List.drop_eq_getElem_cons (by omega)
    have e1 : (i : Int) < s → (L.take s.toNat).drop i = L[i] :: (L.take s.toNat).drop (i + 1) := by
      intro h
      rw [List.drop_eq_getElem_cons (by simp; omega), List.getElem_take]
    have e2 : ¬ (i : Int) < s → (L.take s.toNat).drop i = [] ∧ (L.take s.toNat).drop (i + 1) = [] := fun h => ⟨List.drop_eq_nil_of_le (by simp; omega), List.drop_eq_nil_of_le (by simp; omega)⟩
    rw [e0]
    generalize L[i] = e at hx e1
    have hi1 : wrap64 ((i : Int) + 1) = ((i + 1 : Nat) : Int) := by rw [w64 (by omega) (by omega)]; omega
    by_cases hp : 0 ≤ e.f0 ∧ e.f0 ≤ 2
    · have hr := hB.rd hp.1 hp.2
      have hr5 := hB5.rd hp.1 hp.2
      have l3 := hB.1
      have l5 := hB5.1
      cases ho : itemOk e.f2 with
      | true =>
        have hst : ∀ (u : Nat → Option Bool) r, (∀ k, u k = if (i : Int) < s then (if e.f0 < (c5.length : Int) then impl_KeeperOk.j0 k L N E s A c (i : Int) (bump c5 e.f0) else none) else impl_KeeperOk.j0 k L N E s A c (i : Int) c5) → Ev u r → Ev (fun k => impl_KeeperOk.l1 k L N E s A c c5 (i : Int)) r := by
          intro u r hu h
          refine Ev.step (fun _ => rfl) ?_
          simp only [impl_KeeperOk.l1]; rw [rd98 hx, w64 (x := rd c5 e.f0 + 1) (by omega) (by omega)]
          refine Ev.pos (by omega) (Ev.pos (by omega) (Ev.bindc (isPid_dec _) (Ev.pos (by simpa using hp) (Ev.bindc (impl_ItemOk_of e.f2) ?_))))
          rw [ho]
          exact Ev.pos rfl (Ev.pos hp.1 (Ev.pos (by omega) (Ev.pos (by omega) (Ev.congr (fun k => (hu k).symm) h))))
        by_cases hs : e.f1 = rd c e.f0 + 1
        · have hg : good (e :: L.drop (i + 1)) c = good (L.drop (i + 1)) (bump c e.f0) := by simp [good, okE, hp, hs, ho]
          rw [hg]
          have hj : ∀ c6 r, Ev (fun k => impl_KeeperOk.l1 k L N E s A (bump c e.f0) c6 ((i + 1 : Nat) : Int)) r → Ev (fun k => impl_KeeperOk.j0 k L N E s A c (i : Int) c6) r := by
            intro c6 r h
            refine Ev.step (fun _ => rfl) ?_
            simp only [impl_KeeperOk.j0]; rw [rd98 hx, w64 (x := rd c e.f0 + 1) (by omega) (by omega), hi1]
            exact Ev.pos (by first | omega | (simp; omega)) (Ev.pos (by rw [rd_set c _ _ hp.1 (by omega)]; exact hs) h)
          by_cases h6 : (i : Int) < s
          · obtain ⟨g1, g2⟩ := ih (i + 1) (bump c e.f0) (bump c5 e.f0) (by omega) (by omega) (hB.bump hp.1 hp.2) (hB5.bump hp.1 hp.2)
            have hk : ∀ r, Ev (fun k => impl_KeeperOk.l1 k L N E s A (bump c e.f0) (bump c5 e.f0) ((i + 1 : Nat) : Int)) r → Ev (fun k => impl_KeeperOk.l1 k L N E s A c c5 (i : Int)) r := fun r h => hst _ r (fun _ => rfl) (Ev.pos h6 (Ev.pos (by omega) (hj _ _ h)))
            refine ⟨fun h => hk _ (g1 h), fun h r hr => hk _ (g2 h r ?_)⟩
            rw [e1 h6] at hr
            exact hr
          · obtain ⟨g1, g2⟩ := ih (i + 1) (bump c e.f0) c5 (by omega) (by omega) (hB.bump hp.1 hp.2) (hB5.up (by omega))
            have hk : ∀ r, Ev (fun k => impl_KeeperOk.l1 k L N E s A (bump c e.f0) c5 ((i + 1 : Nat) : Int)) r → Ev (fun k => impl_KeeperOk.l1 k L N E s A c c5 (i : Int)) r := fun r h => hst _ r (fun _ => rfl) (Ev.neg h6 (hj _ _ h))
            refine ⟨fun h => hk _ (g1 h), fun h r hr => hk _ (g2 h r ?_)⟩
            rw [(e2 h6).1] at hr
            rw [(e2 h6).2]
            exact hr
        · have hg : good (e :: L.drop (i + 1)) c = false := by simp [good, hs]
          rw [hg]
          have hj : ∀ c6, Ev (fun k => impl_KeeperOk.j0 k L N E s A c (i : Int) c6) false := by
            intro c6
            refine Ev.step (fun _ => rfl) ?_
            simp only [impl_KeeperOk.j0]; rw [rd98 hx, w64 (x := rd c e.f0 + 1) (by omega) (by omega)]
            exact Ev.pos (by first | omega | (simp; omega)) (Ev.neg (by rw [rd_set c _ _ hp.1 (by omega)]; exact hs) (Ev.now _))
          exact ⟨fun _ => hst _ _ (fun _ => rfl) (Ev.both (fun _ => Ev.pos (by omega) (hj _)) (fun _ => hj _)), fun h => by cases h⟩
      | false =>
        have hg : good (e :: L.drop (i + 1)) c = false := by simp [good, okE, ho]
        rw [hg]
        refine ⟨fun _ => Ev.step (fun _ => rfl) ?_, fun h => by cases h⟩
        simp only [impl_KeeperOk.l1]; rw [rd98 hx]
        refine Ev.pos (by omega) (Ev.pos (by omega) (Ev.bindc (isPid_dec _) (Ev.pos (by simpa using hp) (Ev.bindc (impl_ItemOk_of e.f2) ?_))))
        rw [ho]
        exact Ev.neg (by simp) (Ev.now _)
    · have hg : good (e :: L.drop (i + 1)) c = false := by simp [good, okE, hp]
      rw [hg]
      refine ⟨fun _ => Ev.step (fun _ => rfl) ?_, fun h => by cases h⟩
      simp only [impl_KeeperOk.l1]; rw [rd98 hx]
      exact Ev.pos (by omega) (Ev.pos (by omega) (Ev.bindc (isPid_dec _) (Ev.neg (by simpa using hp) (Ev.now _))))
def Q3 (N A m sv : List Int) (i : Nat) : Prop := ∀ j : Nat, i ≤ j → j < 3 → rd N (j : Int) = rd m (j : Int) + 1 ∧ rd A (j : Int) = rd sv (j : Int) + 1
def W3 (N A : List Int) (i : Nat) : Prop := ∀ j : Nat, i ≤ j → j < 3 → (1 ≤ rd N (j : Int) ∧ rd N (j : Int) ≤ 1000000000) ∧ 1 ≤ rd A (j : Int) ∧ rd A (j : Int) ≤ rd N (j : Int)
section
variable (L : List En) (N : List Int) (E : List Er) (s : Int) (A : List Int)
theorem specCmp_ev (m sv : List Int) (hN : N.length = 3) (hA : A.length = 3) (bm : Bd m 1048576) (bs : Bd sv 1048576) : ∀ (d i : Nat), 3 - i = d → i ≤ 3 →
    (Q3 N A m sv i → ∀ r, Ev (fun k => spec_KeeperOk.l1 k L N E s A 0) r → Ev (fun k => spec_KeeperOk.l0 k L N E s A (m, true) (sv, true) (i : Int)) r) ∧ (¬ Q3 N A m sv i → Ev (fun k => spec_KeeperOk.l0 k L N E s A (m, true) (sv, true) (i : Int)) false) := by
  intro d
  induction d with
  | zero =>
    intro i hd hi
    refine ⟨fun _ r hr => Ev.step (fun _ => rfl) ?_, fun h => (h fun j h1 h2 => by omega).elim⟩
    simp only [spec_KeeperOk.l0]; exact Ev.neg (by omega) hr
  | succ d ih =>
    intro i hd hi
    obtain ⟨g1, g2⟩ := ih (i + 1) (by omega) (by omega)
    have b1 := bm.rd (p := (i : Int)) (by omega) (by omega)
    have b2 := bs.rd (p := (i : Int)) (by omega) (by omega)
    have l1 := bm.1
    have l2 := bs.1
    have hq : Q3 N A m sv i ↔ (rd N (i : Int) = rd m (i : Int) + 1 ∧ rd A (i : Int) = rd sv (i : Int) + 1) ∧ Q3 N A m sv (i + 1) := by
      refine ⟨fun h => ⟨h i (Nat.le_refl _) (by omega), fun j h1 h2 => h j (by omega) h2⟩, fun h j h1 h2 => ?_⟩
      rcases Nat.eq_or_lt_of_le h1 with rfl | h3
      · exact h.1
      · exact h.2 j h3 h2
    have hst : ∀ r, (rd N (i : Int) = rd m (i : Int) + 1 ∧ rd A (i : Int) = rd sv (i : Int) + 1) → Ev (fun k => spec_KeeperOk.l0 k L N E s A (m, true) (sv, true) ((i + 1 : Nat) : Int)) r → Ev (fun k => spec_KeeperOk.l0 k L N E s A (m, true) (sv, true) (i : Int)) r := by
      intro r h hr
      refine Ev.step (fun _ => rfl) ?_
      simp only [spec_KeeperOk.l0]; rw [w64 (x := rd m (i : Int) + 1) (by omega) (by omega), w64 (x := rd sv (i : Int) + 1) (by omega) (by omega), w64 (x := (i : Int) + 1) (by omega) (by omega), show (i : Int) + 1 = ((i + 1 : Nat) : Int) by omega]
      exact Ev.pos (by omega) (Ev.pos (by omega) (Ev.pos (by omega) (Ev.pos (by omega) (Ev.pos h.1 (Ev.pos (by omega) (Ev.pos (by omega) (Ev.pos h.2 hr)))))))
    have hsf : ¬ (rd N (i : Int) = rd m (i : Int) + 1 ∧ rd A (i : Int) = rd sv (i : Int) + 1) → Ev (fun k => spec_KeeperOk.l0 k L N E s A (m, true) (sv, true) (i : Int)) false := by
      intro h
      refine Ev.step (fun _ => rfl) ?_
      simp only [spec_KeeperOk.l0]; rw [w64 (x := rd m (i : Int) + 1) (by omega) (by omega), w64 (x := rd sv (i : Int) + 1) (by omega) (by omega)]
      exact Ev.pos (by omega) (Ev.pos (by omega) (Ev.pos (by omega) (Ev.pos (by omega) (Ev.both (fun h1 => Ev.pos (by omega) (Ev.pos (by omega) (Ev.neg (fun h2 => h ⟨h1, h2⟩) (Ev.now _)))) (fun _ => Ev.now _)))))
    refine ⟨fun h r hr => hst r (hq.1 h).1 (g1 (hq.1 h).2 r hr), fun h => ?_⟩
    by_cases h1 : rd N (i : Int) = rd m (i : Int) + 1 ∧ rd A (i : Int) = rd sv (i : Int) + 1
    · exact hst _ h1 (g2 fun h2 => h (hq.2 ⟨h1, h2⟩))
    · exact hsf h1
theorem wrapm {n m : Int} (hn : -9223372036854775808 ≤ n ∧ n ≤ 9223372036854775807) (hm : 0 ≤ m ∧ m ≤ 1048576) : m = wrap64 (n - 1) ↔ n = m + 1 := by
  unfold wrap64; omega
theorem implCmp_ev (m sv : List Int) (hN : N.length = 3) (hA : A.length = 3) (bm : Bd m 1048576) (bs : Bd sv 1048576) (bN : ∀ v ∈ N, -9223372036854775808 ≤ v ∧ v ≤ 9223372036854775807) (bA : ∀ v ∈ A, -9223372036854775808 ≤ v ∧ v ≤ 9223372036854775807) : ∀ (d i : Nat), 3 - i = d → i ≤ 3 →
    (Q3 N A m sv i → ∀ r, Ev (fun k => impl_KeeperOk.l3 k L N E s A 0) r → Ev (fun k => impl_KeeperOk.l2 k L N E s A m sv (i : Int)) r) ∧ (¬ Q3 N A m sv i → Ev (fun k => impl_KeeperOk.l2 k L N E s A m sv (i : Int)) false) := by
  intro d
  induction d with
  | zero =>
    intro i hd hi
    refine ⟨fun _ r hr => Ev.step (fun _ => rfl) ?_, fun h => (h fun j h1 h2 => by omega).elim⟩
    simp only [impl_KeeperOk.l2]; exact Ev.neg (by omega) hr
  | succ d ih =>
    intro i hd hi
    obtain ⟨g1, g2⟩ := ih (i + 1) (by omega) (by omega)
    have b1 := bm.rd (p := (i : Int)) (by omega) (by omega)
    have b2 := bs.rd (p := (i : Int)) (by omega) (by omega)
    have l1 := bm.1
    have l2 := bs.1
    have v1 := bN _ (rd_mem N (i : Int) (by omega) (by omega))
    have v2 := bA _ (rd_mem A (i : Int) (by omega) (by omega))
    have hq : Q3 N A m sv i ↔ (rd N (i : Int) = rd m (i : Int) + 1 ∧ rd A (i : Int) = rd sv (i : Int) + 1) ∧ Q3 N A m sv (i + 1) := by
      refine ⟨fun h => ⟨h i (Nat.le_refl _) (by omega), fun j h1 h2 => h j (by omega) h2⟩, fun h j h1 h2 => ?_⟩
      rcases Nat.eq_or_lt_of_le h1 with rfl | h3
      · exact h.1
      · exact h.2 j h3 h2
    have hst : ∀ r, (rd N (i : Int) = rd m (i : Int) + 1 ∧ rd A (i : Int) = rd sv (i : Int) + 1) → Ev (fun k => impl_KeeperOk.l2 k L N E s A m sv ((i + 1 : Nat) : Int)) r → Ev (fun k => impl_KeeperOk.l2 k L N E s A m sv (i : Int)) r := by
      intro r h hr
      refine Ev.step (fun _ => rfl) ?_
      simp only [impl_KeeperOk.l2]; rw [w64 (x := (i : Int) + 1) (by omega) (by omega), show (i : Int) + 1 = ((i + 1 : Nat) : Int) by omega]
      exact Ev.pos (by omega) (Ev.pos (by omega) (Ev.pos (by omega) (Ev.pos (by omega) (Ev.pos ((wrapm v1 b1).2 h.1) (Ev.pos (by omega) (Ev.pos (by omega) (Ev.pos ((wrapm v2 b2).2 h.2) hr)))))))
    have hsf : ¬ (rd N (i : Int) = rd m (i : Int) + 1 ∧ rd A (i : Int) = rd sv (i : Int) + 1) → Ev (fun k => impl_KeeperOk.l2 k L N E s A m sv (i : Int)) false := by
      intro h
      refine Ev.step (fun _ => rfl) ?_
      simp only [impl_KeeperOk.l2]
      exact Ev.pos (by omega) (Ev.pos (by omega) (Ev.pos (by omega) (Ev.pos (by omega) (Ev.both (fun h1 => Ev.pos (by omega) (Ev.pos (by omega) (Ev.neg (fun h2 => h ⟨(wrapm v1 b1).1 h1, (wrapm v2 b2).1 h2⟩) (Ev.now _)))) (fun _ => Ev.now _)))))
    refine ⟨fun h r hr => hst r (hq.1 h).1 (g1 (hq.1 h).2 r hr), fun h => ?_⟩
    by_cases h1 : rd N (i : Int) = rd m (i : Int) + 1 ∧ rd A (i : Int) = rd sv (i : Int) + 1
    · exact hst _ h1 (g2 fun h2 => h (hq.2 ⟨h1, h2⟩))
    · exact hsf h1
theorem implIn_ev (hN : N.length = 3) (hA : A.length = 3) : ∀ (d i : Nat), 3 - i = d → i ≤ 3 →
    (W3 N A i → ∀ r, Ev (fun k => impl_KeeperOk.l1 k L N E s A (List.replicate 3 0) (List.replicate 3 0) 0) r → Ev (fun k => impl_KeeperOk.l0 k L N E s A (i : Int)) r) ∧ (¬ W3 N A i → Ev (fun k => impl_KeeperOk.l0 k L N E s A (i : Int)) false) := by
  intro d
  induction d with
  | zero =>
    intro i hd hi
    refine ⟨fun _ r hr => Ev.step (fun _ => rfl) ?_, fun h => (h fun j h1 h2 => by omega).elim⟩
    simp only [impl_KeeperOk.l0]; exact Ev.neg (by omega) hr
  | succ d ih =>
    intro i hd hi
    obtain ⟨g1, g2⟩ := ih (i + 1) (by omega) (by omega)
    have hq : W3 N A i ↔ ((1 ≤ rd N (i : Int) ∧ rd N (i : Int) ≤ 1000000000) ∧ 1 ≤ rd A (i : Int) ∧ rd A (i : Int) ≤ rd N (i : Int)) ∧ W3 N A (i + 1) := by
      refine ⟨fun h => ⟨h i (Nat.le_refl _) (by omega), fun j h1 h2 => h j (by omega) h2⟩, fun h j h1 h2 => ?_⟩
      rcases Nat.eq_or_lt_of_le h1 with rfl | h3
      · exact h.1
      · exact h.2 j h3 h2
    have hst : ∀ r, ((1 ≤ rd N (i : Int) ∧ rd N (i : Int) ≤ 1000000000) ∧ 1 ≤ rd A (i : Int) ∧ rd A (i : Int) ≤ rd N (i : Int)) → Ev (fun k => impl_KeeperOk.l0 k L N E s A ((i + 1 : Nat) : Int)) r → Ev (fun k => impl_KeeperOk.l0 k L N E s A (i : Int)) r := by
      intro r h hr
      refine Ev.step (fun _ => rfl) ?_
      simp only [impl_KeeperOk.l0]; rw [w64 (x := (i : Int) + 1) (by omega) (by omega), show (i : Int) + 1 = ((i + 1 : Nat) : Int) by omega]
      exact Ev.pos (by omega) (Ev.pos (by omega) (Ev.pos (by omega) (Ev.bindc (within_of _ _ _) (Ev.pos (by simpa using h.1) (Ev.pos (by omega) (Ev.bindc (within_of _ _ _) (Ev.pos (by simpa using h.2) hr)))))))
    have hsf : ¬ ((1 ≤ rd N (i : Int) ∧ rd N (i : Int) ≤ 1000000000) ∧ 1 ≤ rd A (i : Int) ∧ rd A (i : Int) ≤ rd N (i : Int)) → Ev (fun k => impl_KeeperOk.l0 k L N E s A (i : Int)) false := by
      intro h
      refine Ev.step (fun _ => rfl) ?_
      simp only [impl_KeeperOk.l0]
      refine Ev.pos (by omega) (Ev.pos (by omega) (Ev.pos (by omega) (Ev.bindc (within_of _ _ _) (Ev.both (fun h1 => Ev.pos (by omega) (Ev.bindc (within_of _ _ _) (Ev.neg (fun h2 => h ⟨of_decide_eq_true h1, of_decide_eq_true h2⟩) (Ev.now _)))) (fun _ => Ev.now _)))))
    refine ⟨fun h r hr => hst r (hq.1 h).1 (g1 (hq.1 h).2 r hr), fun h => ?_⟩
    by_cases h1 : (1 ≤ rd N (i : Int) ∧ rd N (i : Int) ≤ 1000000000) ∧ 1 ≤ rd A (i : Int) ∧ rd A (i : Int) ≤ rd N (i : Int)
    · exact hst _ h1 (g2 fun h2 => h (hq.2 ⟨h1, h2⟩))
    · exact hsf h1
theorem earlies_ev (hN : N.length = 3) (hE : E.length ≤ 1048577) (bN : ∀ v ∈ N, 0 ≤ v ∧ v ≤ 2000000) : ∀ (d i : Nat), E.length - i = d → i ≤ E.length →
    ∃ r : Bool, Ev (fun k => spec_KeeperOk.l1 k L N E s A (i : Int)) r ∧ Ev (fun k => impl_KeeperOk.l3 k L N E s A (i : Int)) r := by
  intro d
  induction d with
  | zero =>
    intro i hd hi
    refine ⟨true, Ev.step (fun _ => rfl) ?_, Ev.step (fun _ => rfl) ?_⟩
    · simp only [spec_KeeperOk.l1]; exact Ev.neg (by omega) (Ev.now _)
    · simp only [impl_KeeperOk.l3]; exact Ev.neg (by omega) (Ev.now _)
  | succ d ih =>
    intro i hd hi
    have hx : E[i]? = some E[i] := List.getElem?_eq_getElem (by omega)
    generalize E[i] = e at hx
    have hi1 : wrap64 ((i : Int) + 1) = ((i + 1 : Nat) : Int) := by rw [w64 (by omega) (by omega)]; omega
    by_cases hp : 0 ≤ e.f0 ∧ e.f0 ≤ 2
    · have hv := bN _ (rd_mem N e.f0 hp.1 (by omega))
      have hw : wrap64 (rd N e.f0 + 1) = rd N e.f0 + 1 := w64 (by omega) (by omega)
      by_cases hq : rd N e.f0 + 1 ≤ e.f1 ∧ e.f1 ≤ 1000000000
      · cases ho : itemOk e.f2 with
        | true =>
          obtain ⟨t, t1, t2, -⟩ := earlyAt_ev (E.take i) (by simp; omega) e.f0 e.f1
          have hsp : ∀ (u : Nat → Option Bool) r, (∀ k, u k = if t ≥ 0 then some false else spec_KeeperOk.l1 k L N E s A ((i + 1 : Nat) : Int)) → Ev u r → Ev (fun k => spec_KeeperOk.l1 k L N E s A (i : Int)) r := by
            intro u r hu h
            refine Ev.step (fun _ => rfl) ?_
            simp only [spec_KeeperOk.l1]; rw [rd97 hx, hw, hi1, Int.toNat_natCast]
            exact Ev.pos (by omega) (Ev.pos (by omega) (Ev.bindc (spec_l01In_of _ _ _) (Ev.pos (by simpa using hp) (Ev.pos hp.1 (Ev.pos (by omega) (Ev.bindc (spec_l01In_of _ _ _) (Ev.pos (by simpa using hq) (Ev.bindc (spec_ItemOk_of e.f2) (Ev.pos ho (Ev.pos (by omega) (Ev.bind t1 (Ev.congr (fun k => (hu k).symm) h))))))))))))
          have him : ∀ (u : Nat → Option Bool) r, (∀ k, u k = if t ≥ 0 then some false else impl_KeeperOk.l3 k L N E s A ((i + 1 : Nat) : Int)) → Ev u r → Ev (fun k => impl_KeeperOk.l3 k L N E s A (i : Int)) r := by
            intro u r hu h
            refine Ev.step (fun _ => rfl) ?_
            simp only [impl_KeeperOk.l3]; rw [rd97 hx, hi1, Int.toNat_natCast]
            exact Ev.pos (by omega) (Ev.pos (by omega) (Ev.bindc (isPid_dec _) (Ev.pos (by simpa using hp) (Ev.bindc (impl_ItemOk_of e.f2) (Ev.pos ho (Ev.pos hp.1 (Ev.pos (by omega) (Ev.neg (by omega) (Ev.neg (by omega) (Ev.pos (by omega) (Ev.bind t2 (Ev.congr (fun k => (hu k).symm) h))))))))))))
          by_cases ht : t ≥ 0
          · exact ⟨false, hsp _ _ (fun _ => rfl) (Ev.pos ht (Ev.now _)), him _ _ (fun _ => rfl) (Ev.pos ht (Ev.now _))⟩
          · obtain ⟨r, r1, r2⟩ := ih (i + 1) (by omega) (by omega)
            exact ⟨r, hsp _ _ (fun _ => rfl) (Ev.neg ht r1), him _ _ (fun _ => rfl) (Ev.neg ht r2)⟩
        | false =>
          refine ⟨false, Ev.step (fun _ => rfl) ?_, Ev.step (fun _ => rfl) ?_⟩
          · simp only [spec_KeeperOk.l1]; rw [rd97 hx, hw]
            exact Ev.pos (by omega) (Ev.pos (by omega) (Ev.bindc (spec_l01In_of _ _ _) (Ev.pos (by simpa using hp) (Ev.pos hp.1 (Ev.pos (by omega) (Ev.bindc (spec_l01In_of _ _ _) (Ev.pos (by simpa using hq) (Ev.bindc (spec_ItemOk_of e.f2) (Ev.neg (by simp [ho]) (Ev.now _))))))))))
          · simp only [impl_KeeperOk.l3]; rw [rd97 hx]
            exact Ev.pos (by omega) (Ev.pos (by omega) (Ev.bindc (isPid_dec _) (Ev.pos (by simpa using hp) (Ev.bindc (impl_ItemOk_of e.f2) (Ev.neg (by simp [ho]) (Ev.now _))))))
      · refine ⟨false, Ev.step (fun _ => rfl) ?_, Ev.step (fun _ => rfl) ?_⟩
        · simp only [spec_KeeperOk.l1]; rw [rd97 hx, hw]
          exact Ev.pos (by omega) (Ev.pos (by omega) (Ev.bindc (spec_l01In_of _ _ _) (Ev.pos (by simpa using hp) (Ev.pos hp.1 (Ev.pos (by omega) (Ev.bindc (spec_l01In_of _ _ _) (Ev.neg (by simpa using hq) (Ev.now _))))))))
        · simp only [impl_KeeperOk.l3]; rw [rd97 hx]
          refine Ev.pos (by omega) (Ev.pos (by omega) (Ev.bindc (isPid_dec _) (Ev.pos (by simpa using hp) (Ev.bindc (impl_ItemOk_of e.f2) (Ev.both (fun _ => Ev.pos hp.1 (Ev.pos (by omega) (Ev.both (fun _ => Ev.now _) (fun h1 => Ev.pos (by omega) (Ev.now _))))) (fun _ => Ev.now _))))))
    · refine ⟨false, Ev.step (fun _ => rfl) ?_, Ev.step (fun _ => rfl) ?_⟩
      · simp only [spec_KeeperOk.l1]; rw [rd97 hx]
        exact Ev.pos (by omega) (Ev.pos (by omega) (Ev.bindc (spec_l01In_of _ _ _) (Ev.neg (by simpa using hp) (Ev.now _))))
      · simp only [impl_KeeperOk.l3]; rw [rd97 hx]
        exact Ev.pos (by omega) (Ev.pos (by omega) (Ev.bindc (isPid_dec _) (Ev.neg (by simpa using hp) (Ev.now _))))
theorem keeperOk_core (hN : N.length = 3) (hA : A.length = 3) (hL : L.length ≤ 200) (hs0 : 0 ≤ s) (hs1 : s ≤ (L.length : Int)) (hE : E.length ≤ 1048576) (bN : ∀ v ∈ N, -9223372036854775808 ≤ v ∧ v ≤ 9223372036854775807) (bA : ∀ v ∈ A, -9223372036854775808 ≤ v ∧ v ≤ 9223372036854775807) :
    ∃ r : Bool, Ev (fun k => (spec_l20Counts.f k L (L.length : Int)).bind fun t8 => (spec_l20Counts.f k L s).bind fun t10 => if t8.2 = true then (if t10.2 = true then spec_KeeperOk.l0 k L N E s A t8 t10 0 else some false) else some false) r ∧ Ev (fun k => impl_KeeperOk.l0 k L N E s A 0) r := by
  obtain ⟨c1, f1, f2⟩ := counts_ev L L.length (Nat.le_refl _) (by omega) _ 0 _ rfl (by omega) bd0
  obtain ⟨c2, f3, f4⟩ := counts_ev L s.toNat (by omega) (by omega) _ 0 _ rfl (by omega) bd0
  rw [List.take_length] at f1 f2
  rw [List.drop_zero] at f1 f2 f3 f4
  rw [show ((s.toNat : Nat) : Int) = s by omega] at f3
  have F1 : Ev (fun k => spec_l20Counts.f k L (L.length : Int)) (c1, good L (List.replicate 3 0)) := by unfold spec_l20Counts.f; exact f1
  have F3 : Ev (fun k => spec_l20Counts.f k L s) (c2, good (L.take s.toNat) (List.replicate 3 0)) := by unfold spec_l20Counts.f; exact f3
  obtain ⟨m1, m2⟩ := many_ev L N E s A hs0 hs1 (by omega) _ 0 _ _ rfl (by omega) bd0 bd0
  rw [List.drop_zero] at m1 m2
  rw [List.drop_zero] at m2
  obtain ⟨i1, i2⟩ := implIn_ev L N E s A hN hA _ 0 rfl (by omega)
  have hF : (¬ W3 N A 0 ∨ ∀ r : Bool, r = false → Ev (fun k => impl_KeeperOk.l1 k L N E s A (List.replicate 3 0) (List.replicate 3 0) 0) r) → Ev (fun k => impl_KeeperOk.l0 k L N E s A 0) false := by
    intro h
    by_cases hw : W3 N A 0
    · rcases h with h | h
      · exact (h hw).elim
      · exact i1 hw _ (h _ rfl)
    · exact i2 hw
  cases hg : good L (List.replicate 3 0) with
  | false =>
    exact ⟨false, Ev.bind F1 (Ev.bind F3 (Ev.neg (fun h_ => absurd (hg.symm.trans h_) (by decide)) (Ev.now _))), hF (.inr fun r hr => by subst hr; exact m1 hg)⟩
  | true =>
    have hsplit := (good_app (L.take s.toNat) (L.drop s.toNat) (List.replicate 3 0)).1 (by rw [List.take_append_drop]; exact hg)
    have e1 := f2 hg
    have e2 := f4 hsplit.1
    subst e1
    subst e2
    have bm0 := bumps_bd L _ 0 hg bd0
    have bs0 := bumps_bd _ _ 0 hsplit.1 bd0
    have bm := bm0.up (j := 1048576) (by omega)
    have bs := bs0.up (j := 1048576) (by simp; omega)
    have hle : ∀ p, 0 ≤ p → p ≤ 2 → rd (bumps (L.take s.toNat) (List.replicate 3 0)) p ≤ rd (bumps L (List.replicate 3 0)) p := by
      intro p p0 p1
      have h1 := bumps_le (L.drop s.toNat) _ _ hsplit.2 bs0 p p0 p1
      rw [← bumps_app, List.take_append_drop] at h1
      exact h1
    have sp : ∀ r, Ev (fun k => spec_KeeperOk.l0 k L N E s A (bumps L (List.replicate 3 0), true) (bumps (L.take s.toNat) (List.replicate 3 0), true) 0) r → Ev (fun k => (spec_l20Counts.f k L (L.length : Int)).bind fun t8 => (spec_l20Counts.f k L s).bind fun t10 => if t8.2 = true then (if t10.2 = true then spec_KeeperOk.l0 k L N E s A t8 t10 0 else some false) else some false) r := by
      intro r h
      refine Ev.bind F1 (Ev.bind F3 (Ev.pos hg (Ev.pos hsplit.1 ?_)))
      rw [hg, hsplit.1]
      exact h
    obtain ⟨s1, s2⟩ := specCmp_ev L N E s A _ _ hN hA bm bs _ 0 rfl (by omega)
    obtain ⟨q1, q2⟩ := implCmp_ev L N E s A _ _ hN hA bm bs bN bA _ 0 rfl (by omega)
    by_cases hq : Q3 N A (bumps L (List.replicate 3 0)) (bumps (L.take s.toNat) (List.replicate 3 0)) 0
    · have hw : W3 N A 0 := by
        intro j h1 h2
        obtain ⟨a1, a2⟩ := hq j h1 h2
        have h3 := bm0.rd (p := (j : Int)) (by omega) (by omega)
        have h4 := bs0.rd (p := (j : Int)) (by omega) (by omega)
        have h5 := hle (j : Int) (by omega) (by omega)
        omega
      have bN' : ∀ v ∈ N, 0 ≤ v ∧ v ≤ 2000000 := by
        intro v hv
        obtain ⟨j, hj, rfl⟩ := List.getElem_of_mem hv
        obtain ⟨⟨h1, h2⟩, _⟩ := hw j (Nat.zero_le _) (by omega)
        obtain ⟨a1, _⟩ := hq j (Nat.zero_le _) (by omega)
        have h3 := bm0.rd (p := (j : Int)) (by omega) (by omega)
        have h4 : rd N (j : Int) = N[j] := by unfold rd; exact get_of N 0 (List.getElem?_eq_getElem hj)
        omega
      obtain ⟨r, r1, r2⟩ := earlies_ev L N E s A hN (by omega) bN' _ 0 rfl (by omega)
      exact ⟨r, sp _ (s1 hq _ r1), i1 hw _ (m2 hg _ (q1 hq _ r2))⟩
    · exact ⟨false, sp _ (s2 hq), hF (.inr fun r hr => by subst hr; exact m2 hg _ (q2 hq))⟩
theorem keeperOk_ev (hE : E.length ≤ 1048576) (bN : ∀ v ∈ N, -9223372036854775808 ≤ v ∧ v ≤ 9223372036854775807) (bA : ∀ v ∈ A, -9223372036854775808 ≤ v ∧ v ≤ 9223372036854775807) :
    ∃ r : Bool, Ev (fun k => spec_KeeperOk.f k L N E s A) r ∧ Ev (fun k => impl_KeeperOk.f k L N E s A) r := by
  have z : Ev (fun _ => some false) false := Ev.now _
  unfold spec_KeeperOk.f impl_KeeperOk.f
  by_cases h1 : (N.length : Int) = 3
  · by_cases h2 : (A.length : Int) = 3
    · by_cases h3 : (L.length : Int) > 200
      · exact ⟨false, Ev.pos h1 (Ev.pos h2 (Ev.pos h3 z)), Ev.pos h1 (Ev.pos h2 (Ev.pos h3 z))⟩
      · by_cases h4 : 0 ≤ s ∧ s ≤ (L.length : Int)
        · by_cases h5 : (E.length : Int) > 3
          · exact ⟨false, Ev.pos h1 (Ev.pos h2 (Ev.neg h3 (Ev.bindc (spec_l01In_of _ _ _) (Ev.pos (by simpa using h4) (Ev.pos h5 z))))), Ev.pos h1 (Ev.pos h2 (Ev.neg h3 (Ev.bindc (within_of _ _ _) (Ev.pos (by simpa using h4) (Ev.pos h5 z)))))⟩
          · obtain ⟨r, r1, r2⟩ := keeperOk_core L N E s A (by omega) (by omega) (by omega) h4.1 h4.2 hE bN bA
            exact ⟨r, Ev.pos h1 (Ev.pos h2 (Ev.neg h3 (Ev.bindc (spec_l01In_of _ _ _) (Ev.pos (by simpa using h4) (Ev.neg h5 r1))))), Ev.pos h1 (Ev.pos h2 (Ev.neg h3 (Ev.bindc (within_of _ _ _) (Ev.pos (by simpa using h4) (Ev.neg h5 r2)))))⟩
        · exact ⟨false, Ev.pos h1 (Ev.pos h2 (Ev.neg h3 (Ev.bindc (spec_l01In_of _ _ _) (Ev.neg (fun h_ => h4 (of_decide_eq_true h_)) z)))), Ev.pos h1 (Ev.pos h2 (Ev.neg h3 (Ev.bindc (within_of _ _ _) (Ev.neg (fun h_ => h4 (of_decide_eq_true h_)) z))))⟩
    · exact ⟨false, Ev.pos h1 (Ev.neg h2 z), Ev.pos h1 (Ev.neg h2 z)⟩
  · exact ⟨false, Ev.neg h1 z, Ev.neg h1 z⟩
end
def entOn (pid : Int) (s : List S34) (x : S98) : Except (List S34) (List S34) := .ok (if x.f0 = pid then s ++ [x.f2] else s)
def entriesV (pid : Int) (l : List S98) : List S34 := foldE (entOn pid) id l []
theorem ent_length (pid : Int) : ∀ (l : List S98) (s : List S34), (foldE (entOn pid) id l s).length ≤ s.length + l.length
  | [], s => by simp [foldE]
  | x :: r, s => by
    rw [foldE_on r (show entOn pid s x = .ok _ from rfl)]
    have := ent_length pid r (if x.f0 = pid then s ++ [x.f2] else s)
    have h2 : (if x.f0 = pid then s ++ [x.f2] else s).length ≤ s.length + 1 := by split <;> simp
    simp only [List.length_cons]; omega
theorem spec_EntriesOf_ev (l : List S98) (l1 : List Int) (l2 : List S97) (a : Int) (l4 : List Int) (pid : Int) (hn : l.length ≤ 1048576) : Ev (fun k => spec_EntriesOf.f k l l1 l2 a l4 pid) (entriesV pid l) := by
  unfold spec_EntriesOf.f entriesV
  have := foldE_ev (fun k s i => spec_EntriesOf.l0 k l l1 l2 a l4 pid s i) l (entOn pid) id (fun i s => s.length ≤ i) ?_ ?_ ?_ l.length 0 [] rfl (Nat.zero_le _) (by simp)
  · simpa using this
  · intro s hs
    refine Ev.step (f := fun _ => some s) (fun k => ?_) (Ev.now _)
    simp only [spec_EntriesOf.l0]; rw [if_neg (by omega)]
  · intro i x s e hx hs he; cases he
  · intro i x s s' hx hs he
    have hi := lt_of hx
    obtain rfl : (if x.f0 = pid then s ++ [x.f2] else s) = s' := by injection he
    refine ⟨by split <;> (try simp) <;> omega, fun r h => ?_⟩
    refine Ev.step (fun k => ?_) h
    simp only [spec_EntriesOf.l0]
    rw [if_pos (by omega), if_pos (by omega), rd98 hx, w64 (by omega) (by omega)]
    by_cases hp : x.f0 = pid
    · rw [if_pos hp, if_pos hp, if_pos (by simp only [List.length_cons, List.length_nil]; omega)]
    · rw [if_neg hp, if_neg hp]
theorem impl_EntriesOf_ev (l : List S98) (l1 : List Int) (l2 : List S97) (a : Int) (l4 : List Int) (pid : Int) (hn : l.length ≤ 1048576) : Ev (fun k => impl_EntriesOf.f k l l1 l2 a l4 pid) (entriesV pid l) := by
  unfold impl_EntriesOf.f entriesV
  have := foldE_ev (fun k s i => impl_EntriesOf.l0 k l pid s i) l (entOn pid) id (fun i s => s.length ≤ i) ?_ ?_ ?_ l.length 0 [] rfl (Nat.zero_le _) (by simp)
  · simpa using this
  · intro s hs
    refine Ev.step (f := fun _ => some s) (fun k => ?_) (Ev.now _)
    simp only [impl_EntriesOf.l0]; rw [if_neg (by omega)]
  · intro i x s e hx hs he; cases he
  · intro i x s s' hx hs he
    have hi := lt_of hx
    obtain rfl : (if x.f0 = pid then s ++ [x.f2] else s) = s' := by injection he
    refine ⟨by split <;> (try simp) <;> omega, fun r h => ?_⟩
    refine Ev.step (fun k => ?_) h
    simp only [impl_EntriesOf.l0]
    rw [if_pos (by omega), if_pos (by omega), rd98 hx, w64 (by omega) (by omega)]
    by_cases hp : x.f0 = pid
    · rw [if_pos hp, if_pos hp, if_pos (by simp only [List.length_cons, List.length_nil]; omega)]
    · rw [if_neg hp, if_neg hp]
/-- Ends with enough rounds, and what comes out is so. -/
def Tot {α : Type} (g : Nat → Option α) (P : α → Prop) : Prop := ∃ r, Ev g r ∧ P r
section
variable {α β : Type} {P Q : α → Prop} {R : β → Prop}
theorem Tot.now {r : α} (h : P r) : Tot (fun _ => some r) P := ⟨r, Ev.now r, h⟩
theorem Tot.bind {g : Nat → Option α} {f : Nat → α → Option β} (h : Tot g P) (k : ∀ a, P a → Tot (fun n => f n a) R) : Tot (fun n => (g n).bind (f n)) R := by
  obtain ⟨a, ha, hp⟩ := h
  obtain ⟨r, hr, h⟩ := k a hp
  exact ⟨r, Ev.bind ha hr, h⟩
theorem Tot.bindc {a : Option α} {f : Nat → α → Option β} (h : ∃ x, a = some x ∧ P x) (k : ∀ x, P x → Tot (fun n => f n x) R) : Tot (fun n => a.bind (f n)) R := by
  obtain ⟨a, ha, hp⟩ := h
  obtain ⟨r, hr, h⟩ := k a hp
  exact ⟨r, Ev.bindc ha hr, h⟩
theorem Tot.bind1 {g : Nat → Option α} {f : Nat → α → Option β} {a : α} (h : Ev g a) (k : Tot (fun n => f n a) R) : Tot (fun n => (g n).bind (f n)) R := by
  obtain ⟨r, hr, k⟩ := k
  exact ⟨r, Ev.bind h hr, k⟩
theorem Tot.bindc1 {a : Option α} {f : Nat → α → Option β} {x : α} (h : a = some x) (k : Tot (fun n => f n x) R) : Tot (fun n => a.bind (f n)) R := by
  obtain ⟨r, hr, k⟩ := k
  exact ⟨r, Ev.bindc h hr, k⟩
theorem Tot.pos {c : Prop} [Decidable c] {f g : Nat → Option α} (h : c) (k : Tot f P) : Tot (fun n => if c then f n else g n) P := by
  obtain ⟨r, hr, k⟩ := k
  exact ⟨r, Ev.pos h hr, k⟩
theorem Tot.neg {c : Prop} [Decidable c] {f g : Nat → Option α} (h : ¬ c) (k : Tot g P) : Tot (fun n => if c then f n else g n) P := by
  obtain ⟨r, hr, k⟩ := k
  exact ⟨r, Ev.neg h hr, k⟩
theorem Tot.grd {c : Prop} [Decidable c] {f : Nat → Option α} (h : c) (k : Tot f P) : Tot (fun n => if c then f n else none) P := Tot.pos h k
theorem Tot.both {c : Prop} [Decidable c] {f g : Nat → Option α} (h : c → Tot f P) (k : ¬ c → Tot g P) : Tot (fun n => if c then f n else g n) P := by
  by_cases hc : c
  · exact Tot.pos hc (h hc)
  · exact Tot.neg hc (k hc)
theorem Tot.step {g f : Nat → Option α} (h : ∀ k, g (k + 1) = f k) (k : Tot f P) : Tot g P := by
  obtain ⟨r, hr, k⟩ := k
  exact ⟨r, Ev.step h hr, k⟩
theorem Tot.mono {g : Nat → Option α} (h : Tot g P) (k : ∀ r, P r → Q r) : Tot g Q := by
  obtain ⟨r, hr, h⟩ := h
  exact ⟨r, hr, k r h⟩
theorem Tot.one {g : Nat → Option α} {r : α} (h : Ev g r) (k : P r) : Tot g P := ⟨r, h, k⟩
/-- A loop of at most m rounds that keeps Inv. -/
theorem Tot.up {σ : Type} (L : Nat → σ → Int → Option α) (m : Nat) (Inv : Nat → σ → Prop)
    (step : ∀ (j : Nat) s, j ≤ m → Inv j s → (∀ s', j < m → Inv (j + 1) s' → Tot (fun k => L k s' ((j : Int) + 1)) P) → Tot (fun k => L k s (j : Int)) P) :
    ∀ s, Inv 0 s → Tot (fun k => L k s 0) P := by
  have key : ∀ (d j : Nat) s, m - j = d → j ≤ m → Inv j s → Tot (fun k => L k s (j : Int)) P := by
    intro d
    induction d with
    | zero => intro j s hd hj hi; exact step j s hj hi (fun s' h _ => by omega)
    | succ d ih => intro j s hd hj hi; exact step j s hj hi (fun s' h hi' => by have := ih (j + 1) s' (by omega) (by omega) hi'; simpa using this)
  intro s hs
  exact key _ 0 s rfl (Nat.zero_le _) hs
end
theorem and255 (x : Int) : 0 ≤ bits .and .i64 x 255 ∧ bits .and .i64 x 255 ≤ 255 := by
  have h : bits .and .i64 x 255 = (((BitVec.ofInt 64 x).toNat &&& 255 : Nat) : Int) := by
    show IntKind.i64.wrap (((BitVec.ofInt 64 x) &&& (BitVec.ofInt 64 255)).toNat : Int) = _
    rw [BitVec.toNat_and]
    have : (BitVec.ofInt 64 255).toNat = 255 := by decide
    rw [this, IntKind.wrap_i64]
    have h2 : (BitVec.ofInt 64 x).toNat &&& 255 ≤ 255 := Nat.and_le_right
    omega
  rw [h]
  have h2 : (BitVec.ofInt 64 x).toNat &&& 255 ≤ 255 := Nat.and_le_right
  omega
/-- A reader's place. -/
def Rd (b : List Int) (i : Int) : Prop := b.length ≤ 1048576 ∧ 0 ≤ i ∧ i ≤ (b.length : Int)
theorem l01New_ev (b : List Int) (hb : b.length ≤ 1048576) : ∃ s, Ev (fun k => spec_l01New.f k b) (b, 0, s) := by
  have key : ∀ (d i : Nat) (s : Int), b.length - i = d → i ≤ b.length → ∃ s', Ev (fun k => spec_l01New.l0 k b s (i : Int)) (b, 0, s') := by
    intro d
    induction d with
    | zero =>
      intro i s hd hi
      refine ⟨s, Ev.step (fun _ => rfl) ?_⟩
      simp only [spec_l01New.l0]; exact Ev.neg (by omega) (Ev.now _)
    | succ d ih =>
      intro i s hd hi
      by_cases h : (i : Int) < 4000
      · obtain ⟨s', h'⟩ := ih (i + 1) (bits .and .i64 (wrap64 ((wrap64 ((wrap64 (s * 131)) + (wrap64 (rd b i)))) + 7)) 1073741823) (by omega) (by omega)
        refine ⟨s', Ev.step (fun _ => rfl) ?_⟩
        simp only [spec_l01New.l0]; rw [w64 (x := (i : Int) + 1) (by omega) (by omega)]
        exact Ev.pos (by omega) (Ev.pos h (Ev.pos (by omega) h'))
      · refine ⟨s, Ev.step (fun _ => rfl) ?_⟩
        simp only [spec_l01New.l0]; exact Ev.pos (by omega) (Ev.neg h (Ev.now _))
  exact key b.length 0 _ rfl (Nat.zero_le _)
theorem l01Byte_of (b : List Int) (i s : Int) (h : Rd b i) : ∃ v i' s', spec_l01Byte.f b i s = some (v, b, i', s') ∧ Rd b i' ∧ 0 ≤ v ∧ v ≤ 255 := by
  unfold spec_l01Byte.f
  by_cases hi : i < (b.length : Int)
  · rw [if_pos hi, if_pos h.2.1]
    exact ⟨_, _, _, rfl, ⟨h.1, by rw [w64 (by have := h.1; have := h.2.1; omega) (by have := h.1; omega)]; have := h.2.1; omega, by rw [w64 (by have := h.1; have := h.2.1; omega) (by have := h.1; omega)]; omega⟩, and255 _⟩
  · rw [if_neg hi]
    exact ⟨_, _, _, rfl, h, and255 _⟩
theorem tmod_of {v n : Int} (h : 0 ≤ v) (hn : 0 < n) : 0 ≤ v.tmod n ∧ v.tmod n < n := ⟨Int.tmod_nonneg _ h, Int.tmod_lt_of_pos _ hn⟩
theorem l01Below_of (b : List Int) (i s n : Int) (h : Rd b i) (hn : 0 < n) : ∃ v i' s', spec_l01Below.f b i s n = some (v, b, i', s') ∧ Rd b i' ∧ 0 ≤ v ∧ v < n := by
  unfold spec_l01Below.f
  rw [if_neg (by omega)]
  obtain ⟨v1, i1, s1, e1, h1, b1⟩ := l01Byte_of b i s h
  obtain ⟨v2, i2, s2, e2, h2, b2⟩ := l01Byte_of b i1 s1 h1
  obtain ⟨v3, i3, s3, e3, h3, b3⟩ := l01Byte_of b i2 s2 h2
  obtain ⟨v4, i4, s4, e4, h4, b4⟩ := l01Byte_of b i3 s3 h3
  by_cases hn2 : n ≤ 256
  · rw [if_pos hn2, e1]
    simp only [Option.bind_some]
    rw [if_pos (by omega)]
    exact ⟨_, _, _, rfl, h1, tmod_of b1.1 hn⟩
  · rw [if_neg hn2, e1]
    simp only [Option.bind_some, e2, e3, e4]
    rw [if_pos (by omega)]
    refine ⟨_, _, _, rfl, h4, tmod_of ?_ hn⟩
    rw [w64 (x := v1 * 16777216) (by omega) (by omega), w64 (x := v2 * 65536) (by omega) (by omega), w64 (x := v1 * 16777216 + v2 * 65536) (by omega) (by omega), w64 (x := v3 * 256) (by omega) (by omega), w64 (x := v1 * 16777216 + v2 * 65536 + v3 * 256) (by omega) (by omega), w64 (by omega) (by omega)]
    omega
theorem l01PickInt_of (b : List Int) (i s : Int) (l : List Int) (h : Rd b i) (hl : 0 < l.length) : ∃ v i' s', spec_l01PickInt.f b i s l = some (v, b, i', s') ∧ Rd b i' ∧ v ∈ l := by
  obtain ⟨v, i', s', e, h', h0, h1⟩ := l01Below_of b i s l.length h (by omega)
  unfold spec_l01PickInt.f
  rw [e]
  simp only [Option.bind_some]
  rw [if_pos h0, if_pos h1]
  refine ⟨_, _, _, rfl, h', ?_⟩
  have hv : v.toNat < l.length := by omega
  unfold rd
  rw [List.getD_eq_getElem?_getD, List.getElem?_eq_getElem hv]
  exact List.getElem_mem hv
theorem l01Once_of (b : List Int) (i s n : Int) (h : Rd b i) (hn : 0 < n) : ∃ (v : Bool) (i' s' : Int), spec_l01Once.f b i s n = some (v, b, i', s') ∧ Rd b i' := by
  obtain ⟨v, i', s', e, h', h0, h1⟩ := l01Below_of b i s n h hn
  exact ⟨_, _, _, by unfold spec_l01Once.f; rw [e]; rfl, h'⟩
section
variable {α : Type} {P : α → Prop} {b : List Int} {i s n : Int}
theorem Tot.below {f : Nat → (Int × List Int × Int × Int) → Option α} (h : Rd b i) (hn : 0 < n) (k : ∀ v i' s', Rd b i' → 0 ≤ v → v < n → Tot (fun m => f m (v, b, i', s')) P) : Tot (fun m => (spec_l01Below.f b i s n).bind (f m)) P := by
  obtain ⟨v, i', s', e, h', h0, h1⟩ := l01Below_of b i s n h hn
  exact Tot.bindc1 e (k v i' s' h' h0 h1)
theorem Tot.once {f : Nat → (Bool × List Int × Int × Int) → Option α} (h : Rd b i) (hn : 0 < n) (k : ∀ v i' s', Rd b i' → Tot (fun m => f m (v, b, i', s')) P) : Tot (fun m => (spec_l01Once.f b i s n).bind (f m)) P := by
  obtain ⟨v, i', s', e, h'⟩ := l01Once_of b i s n h hn
  exact Tot.bindc1 e (k v i' s' h')
theorem Tot.pick {l : List Int} {f : Nat → (Int × List Int × Int × Int) → Option α} (h : Rd b i) (hl : 0 < l.length) (k : ∀ v i' s', Rd b i' → v ∈ l → Tot (fun m => f m (v, b, i', s')) P) : Tot (fun m => (spec_l01PickInt.f b i s l).bind (f m)) P := by
  obtain ⟨v, i', s', e, h', h0⟩ := l01PickInt_of b i s l h hl
  exact Tot.bindc1 e (k v i' s' h' h0)
end
theorem l04Half_of (b : List Int) (i s : Int) (h : Rd b i) : ∃ (v : Int) (i' s' : Int), spec_l04Half.f b i s = some (v, b, i', s') ∧ Rd b i' ∧ 0 ≤ v ∧ v ≤ 4294967295 := by
  obtain ⟨v, i1, s1, e1, h1, b1, b2⟩ := l01Below_of b i s 12 h (by omega)
  obtain ⟨w, i2, s2, e2, h2, m2⟩ := l01PickInt_of b i1 s1 [0, 1, 2, 3, 5, 7, 255, 4294967295, 2147483648, v] h1 (by simp)
  refine ⟨w, i2, s2, ?_, h2, ?_⟩
  · unfold spec_l04Half.f
    rw [e1]
    simp only [Option.bind_some]
    rw [e2]; rfl
  · simp only [List.mem_cons, List.not_mem_nil, or_false] at m2
    omega
theorem l17Item_of (b : List Int) (i s : Int) (h : Rd b i) : ∃ (x0 x1 x2 x3 i' s' : Int), spec_l17Item.f b i s = some (x0, x1, x2, x3, b, i', s') ∧ Rd b i' ∧ ((x0 = 2 ∧ x1 = 0 ∧ x2 = 0 ∧ 1 ≤ x3 ∧ x3 ≤ 5) ∨ (x0 = 1 ∧ (0 ≤ x1 ∧ x1 ≤ 8) ∧ (0 ≤ x2 ∧ x2 ≤ 4294967295) ∧ x3 = 0)) := by
  obtain ⟨v, i1, s1, e1, h1⟩ := l01Once_of b i s 3 h (by omega)
  unfold spec_l17Item.f
  rw [e1]
  simp only [Option.bind_some]
  cases v with
  | true =>
    obtain ⟨w, i2, s2, e2, h2, b2, b3⟩ := l01Below_of b i1 s1 5 h1 (by omega)
    rw [if_pos rfl, e2]
    exact ⟨_, _, _, _, _, _, rfl, h2, .inl ⟨rfl, rfl, rfl, by rw [w64 (by omega) (by omega)]; omega, by rw [w64 (by omega) (by omega)]; omega⟩⟩
  | false =>
    obtain ⟨w, i2, s2, e2, h2, b2, b3⟩ := l01Below_of b i1 s1 9 h1 (by omega)
    obtain ⟨u, i3, s3, e3, h3, b4, b5⟩ := l04Half_of b i2 s2 h2
    rw [if_neg (by simp), e2]
    simp only [Option.bind_some]
    rw [e3]
    exact ⟨_, _, _, _, _, _, rfl, h3, .inr ⟨rfl, by omega, by omega, rfl⟩⟩
section
variable {α : Type} {P : α → Prop} {b : List Int} {i s : Int}
theorem Tot.half {f : Nat → (Int × List Int × Int × Int) → Option α} (h : Rd b i) (k : ∀ v i' s', Rd b i' → 0 ≤ v → v ≤ 4294967295 → Tot (fun m => f m (v, b, i', s')) P) : Tot (fun m => (spec_l04Half.f b i s).bind (f m)) P := by
  obtain ⟨v, i', s', e, h', h0, h1⟩ := l04Half_of b i s h
  exact Tot.bindc1 e (k v i' s' h' h0 h1)
theorem Tot.item {f : Nat → (Int × Int × Int × Int × List Int × Int × Int) → Option α} (h : Rd b i) (k : ∀ x0 x1 x2 x3 i' s', Rd b i' → ((x0 = 2 ∧ x1 = 0 ∧ x2 = 0 ∧ 1 ≤ x3 ∧ x3 ≤ 5) ∨ (x0 = 1 ∧ (0 ≤ x1 ∧ x1 ≤ 8) ∧ (0 ≤ x2 ∧ x2 ≤ 4294967295) ∧ x3 = 0)) → Tot (fun m => f m (x0, x1, x2, x3, b, i', s')) P) : Tot (fun m => (spec_l17Item.f b i s).bind (f m)) P := by
  obtain ⟨x0, x1, x2, x3, i', s', e, h', h0⟩ := l17Item_of b i s h
  exact Tot.bindc1 e (k x0 x1 x2 x3 i' s' h' h0)
end
theorem l17Frame_of (b : List Int) (i s : Int) (h : Rd b i) : ∃ (x0 x1 x2 x3 x4 x5 x6 i' s' : Int), spec_l17Frame.f b i s = some (x0, x1, x2, x3, x4, x5, x6, b, i', s') ∧ Rd b i' ∧ (0 ≤ x1 ∧ x1 ≤ 2) ∧ (1 ≤ x2 ∧ x2 ≤ 6) ∧ ((x0 = 2 ∧ x3 = 0 ∧ x4 = 0 ∧ x5 = 0 ∧ x6 = 0) ∨ (x0 = 1 ∧ ((x3 = 2 ∧ x4 = 0 ∧ x5 = 0 ∧ 1 ≤ x6 ∧ x6 ≤ 5) ∨ (x3 = 1 ∧ (0 ≤ x4 ∧ x4 ≤ 8) ∧ (0 ≤ x5 ∧ x5 ≤ 4294967295) ∧ x6 = 0)))) := by
  obtain ⟨v, i1, s1, e1, h1⟩ := l01Once_of b i s 4 h (by omega)
  obtain ⟨w, i2, s2, e2, h2, b2, b3⟩ := l01Below_of b i1 s1 3 h1 (by omega)
  obtain ⟨u, i3, s3, e3, h3, b4, b5⟩ := l01Below_of b i2 s2 6 h2 (by omega)
  unfold spec_l17Frame.f
  rw [e1]
  simp only [Option.bind_some]
  have hw : wrap64 (1 + u) = 1 + u := w64 (by omega) (by omega)
  cases v with
  | true =>
    rw [if_pos rfl, e2]
    simp only [Option.bind_some]
    rw [e3]
    exact ⟨_, _, _, _, _, _, _, _, _, rfl, h3, by omega, by rw [hw]; omega, .inl ⟨rfl, rfl, rfl, rfl, rfl⟩⟩
  | false =>
    obtain ⟨y0, y1, y2, y3, i4, s4, e4, h4, hy⟩ := l17Item_of b i3 s3 h3
    rw [if_neg (by simp), e2]
    simp only [Option.bind_some]
    rw [e3]
    simp only [Option.bind_some]
    rw [e4]
    exact ⟨_, _, _, _, _, _, _, _, _, rfl, h4, by omega, by rw [hw]; omega, .inr ⟨rfl, hy⟩⟩
theorem l17Any_tot (b : List Int) (i s : Int) (h : Rd b i) : Tot (fun k => spec_l17Any.f k b i s) (fun r => ∃ (x0 x1 x2 x3 x4 x5 x6 i' s' : Int), r = (x0, x1, x2, x3, x4, x5, x6, b, i', s') ∧ Rd b i') := by
  unfold spec_l17Any.f
  refine Tot.below h (by omega) (fun v i1 s1 h1 _ _ => ?_)
  refine Tot.below h1 (by omega) (fun w i2 s2 h2 w0 w1 => ?_)
  obtain ⟨x0, x1, x2, x3, x4, x5, x6, i3, s3, e3, h3, _⟩ := l17Frame_of b i2 s2 h2
  refine Tot.bindc1 e3 ?_
  have hj : ∀ p q r t : Int, Tot (fun k => spec_l17Any.j0 k (x0, x1, x2, x3, x4, x5, x6, b, i3, s3) p q r t) (fun r => ∃ (x0 x1 x2 x3 x4 x5 x6 i' s' : Int), r = (x0, x1, x2, x3, x4, x5, x6, b, i', s') ∧ Rd b i') := fun p q r t =>
    Tot.step (fun _ => rfl) (Tot.now ⟨_, _, _, _, _, _, _, _, _, rfl, h3⟩)
  have t4 := tmod_of w0 (show (0 : Int) < 4 by omega)
  exact Tot.both (fun _ => hj _ _ _ _) (fun _ => Tot.both (fun _ => hj _ _ _ _) (fun _ => Tot.both (fun _ => Tot.grd t4.1 (Tot.grd t4.2 (hj _ _ _ _))) (fun _ => Tot.both (fun _ => hj _ _ _ _) (fun _ => hj _ _ _ _))))
abbrev KV := List S98 × List Int × List S97 × Int × List Int
theorem spec_SaveKeeper_of (L : List S98) (N : List Int) (E : List S97) (a : Int) (A : List Int) (h0 : L.length ≤ 1048576) (h1 : N.length ≤ 1048576) (h2 : E.length ≤ 1048576) (h4 : A.length ≤ 1048576) : spec_SaveKeeper.f L N E a A = some (L, N, E, (L.length : Int), N) := by
  unfold spec_SaveKeeper.f
  rw [spec_l20Copy_of L N E a A h0 h1 h2 h4]
  simp only [Option.bind_some, List.length_nil, List.nil_append]
  rw [if_pos (by omega)]
theorem impl_SaveKeeper_of (L : List S98) (N : List Int) (E : List S97) (a : Int) (A : List Int) (h0 : L.length ≤ 1048576) (h1 : N.length ≤ 1048576) (h2 : E.length ≤ 1048576) (h4 : A.length ≤ 1048576) : impl_SaveKeeper.f L N E a A = some (L, N, E, (L.length : Int), N) := by
  unfold impl_SaveKeeper.f
  rw [impl_copyKeeper_of L N E a A h0 h1 h2 h4]
  simp only [Option.bind_some]
  rw [impl_copyInts_of N h1]; rfl
def fallV (L : List S98) (N : List Int) (E : List S97) (a : Int) (A : List Int) : KV := (if 0 ≤ a ∧ a ≤ (L.length : Int) then L.take a.toNat else L, A, [], a, A)
theorem spec_FallKeeper_ev (L : List S98) (N : List Int) (E : List S97) (a : Int) (A : List Int) (h0 : L.length ≤ 1048576) (h1 : N.length ≤ 1048576) (h2 : E.length ≤ 1048576) (h4 : A.length ≤ 1048576) : Ev (fun k => spec_FallKeeper.f k L N E a A) (fallV L N E a A) := by
  have hj : ∀ X, Ev (fun k => spec_FallKeeper.j0 k L N E a A (L, N, E, a, A) X) (X, A, [], a, A) := fun X => Ev.step (fun _ => rfl) (by simp only [spec_FallKeeper.j0, List.nil_append, List.length_nil]; exact Ev.pos (by omega) (Ev.now _))
  unfold spec_FallKeeper.f fallV
  refine Ev.bindc (spec_l20Copy_of L N E a A h0 h1 h2 h4) (Ev.bindc (spec_l01In_of _ _ _) ?_)
  by_cases h : 0 ≤ a ∧ a ≤ (L.length : Int)
  · rw [if_pos h]
    refine Ev.pos (by simpa using h) (Ev.pos h.1 (Ev.pos h.2 (Ev.pos (by simp; omega) ?_)))
    simp only [List.nil_append]
    exact hj _
  · rw [if_neg h]
    exact Ev.neg (by simpa using h) (hj _)
theorem impl_FallKeeper_ev (L : List S98) (N : List Int) (E : List S97) (a : Int) (A : List Int) (h0 : L.length ≤ 1048576) (h1 : N.length ≤ 1048576) (h2 : E.length ≤ 1048576) (h4 : A.length ≤ 1048576) : Ev (fun k => impl_FallKeeper.f k L N E a A) (fallV L N E a A) := by
  have hj : ∀ X, Ev (fun k => impl_FallKeeper.j0 k (L, N, E, a, A) X) (X, A, [], a, A) := fun X => Ev.step (fun _ => rfl) (by simp only [impl_FallKeeper.j0]; exact Ev.bindc (impl_copyInts_of A h4) (Ev.now _))
  unfold impl_FallKeeper.f fallV
  refine Ev.bindc (impl_copyKeeper_of L N E a A h0 h1 h2 h4) (Ev.bindc (spec_l01In_of _ _ _) ?_)
  by_cases h : 0 ≤ a ∧ a ≤ (L.length : Int)
  · rw [if_pos h]
    exact Ev.pos (by simpa using h) (Ev.pos h.1 (Ev.pos h.2 (hj _)))
  · rw [if_neg h]
    exact Ev.neg (by simpa using h) (hj _)
theorem spec_AckOf_eq (L : List S98) (N : List Int) (E : List S97) (a : Int) (A : List Int) (q : Int) : impl_AckOf.f L N E a A q = spec_AckOf.f L N E a A q := rfl
theorem ackOf_ex (L : List S98) (N : List Int) (E : List S97) (a : Int) (A : List Int) (q : Int) (hA : A.length ≤ 1048576) : ∃ x, spec_AckOf.f L N E a A q = some x := by
  unfold spec_AckOf.f
  rw [spec_l01In_of]
  simp only [Option.bind_some]
  rw [w64 (by omega) (by omega)]
  by_cases h : 0 ≤ q ∧ q ≤ (A.length : Int) - 1
  · rw [if_pos (by simpa using h), if_pos h.1, if_pos (by omega)]; exact ⟨_, rfl⟩
  · rw [if_neg (by simpa using h)]; exact ⟨_, rfl⟩
theorem spec_KeeperNew_ev : Ev (fun k => spec_KeeperNew.f k) ([1, 1, 1], 0, [1, 1, 1]) := by
  unfold spec_KeeperNew.f
  refine Ev.step (fun _ => rfl) ?_
  simp only [spec_KeeperNew.l0]
  refine Ev.pos (by omega) (Ev.pos (by simp) (Ev.pos (by simp) ?_))
  refine Ev.step (fun _ => rfl) ?_
  simp only [spec_KeeperNew.l0]
  refine Ev.pos (by decide +kernel) (Ev.pos (by simp) (Ev.pos (by simp) ?_))
  refine Ev.step (fun _ => rfl) ?_
  simp only [spec_KeeperNew.l0]
  refine Ev.pos (by decide +kernel) (Ev.pos (by simp) (Ev.pos (by simp) ?_))
  refine Ev.step (fun _ => rfl) ?_
  simp only [spec_KeeperNew.l0]
  exact Ev.neg (by decide +kernel) (Ev.now _)
/-- What a drawn keeper is, right or not. -/
def KI (e : Nat) (r : KV) : Prop := r.2.1.length = 3 ∧ r.2.2.2.2.length ≤ 3 ∧ I64s r.2.1 ∧ I64s r.2.2.2.2 ∧ r.1.length ≤ 201 ∧ r.2.2.1.length ≤ e
theorem I64s.drop {l : List Int} (h : I64s l) (n : Nat) : I64s (l.drop n) := fun v hv => h v (List.mem_of_mem_drop hv)
theorem fallV_KI {e e' : Nat} (L : List S98) (N : List Int) (E : List S97) (a : Int) (A : List Int) (h : KI e (L, N, E, a, A)) (hA : A.length = 3) : KI e' (fallV L N E a A) := by
  obtain ⟨h1, h2, h3, h4, h5, h6⟩ := h
  refine ⟨hA, h2, h4, h4, ?_, Nat.zero_le _⟩
  show (if 0 ≤ a ∧ a ≤ (L.length : Int) then L.take a.toNat else L).length ≤ 201
  replace h5 : L.length ≤ 201 := h5
  split
  · rw [List.length_take]; omega
  · exact h5
theorem l20Keeper_tot (b : List Int) (i s : Int) (h : Rd b i) : Tot (fun k => spec_l20Keeper.f k b i s) (fun r => ∃ (x : KV) (i' s' : Int), r = (x.1, x.2.1, x.2.2.1, x.2.2.2.1, x.2.2.2.2, b, i', s') ∧ Rd b i' ∧ KI 14 x ∧ x.2.2.2.2.length = 3 ∧ x.1.length ≤ 200) := by
  unfold spec_l20Keeper.f
  refine Tot.bind1 spec_KeeperNew_ev ?_
  have h111 : I64s [1, 1, 1] := fun v hv => by simp at hv; omega
  refine Tot.up (fun k (t : Int × Int × KV) j => spec_l20Keeper.l0 k b t.1 t.2.1 t.2.2.1 t.2.2.2.1 t.2.2.2.2.1 t.2.2.2.2.2.1 t.2.2.2.2.2.2 j) 14 (fun j t => Rd b t.1 ∧ KI j t.2.2 ∧ t.2.2.2.2.2.2.length = 3 ∧ t.2.2.1.length ≤ 200) ?_ (i, s, [], [1, 1, 1], [], 0, [1, 1, 1]) ⟨h, ⟨rfl, by simp, h111, h111, by simp, by simp⟩, rfl, by simp⟩
  rintro j ⟨i, s, L, N, E, a, A⟩ hj ⟨hr, ⟨k1, k2, k3, k4, k5, k6⟩, hA, hL⟩ next
  replace k1 : N.length = 3 := k1
  replace k3 : I64s N := k3
  replace k4 : I64s A := k4
  replace k6 : E.length ≤ j := k6
  replace hA : A.length = 3 := hA
  replace hL : L.length ≤ 200 := hL
  replace hr : Rd b i := hr
  refine Tot.step (fun _ => rfl) ?_
  simp only [spec_l20Keeper.l0]
  refine Tot.below hr (by omega) (fun v i1 s1 h1 v0 v1 => ?_)
  refine Tot.both (fun hv => ?_) (fun _ => Tot.now ⟨(L, N, E, a, A), _, _, rfl, h1, ⟨k1, k2, k3, k4, k5, by show E.length ≤ 14; omega⟩, hA, hL⟩)
  have hv' : (j : Int) < v := hv
  have e1 : wrap64 ((j : Int) + 1) = (j : Int) + 1 := w64 (by omega) (by omega)
  rw [e1]
  refine Tot.below h1 (by omega) (fun v2 i2 s2 h2 _ _ => ?_)
  refine Tot.both (fun _ => ?_) (fun _ => Tot.both (fun _ => ?_) (fun _ => ?_))
  · refine Tot.bindc1 (spec_SaveKeeper_of L N E a A (by omega) (by omega) (by omega) (by omega)) ?_
    exact next (i2, s2, L, N, E, (L.length : Int), N) (by omega) ⟨h2, ⟨k1, by show N.length ≤ 3; omega, k3, k3, k5, by show E.length ≤ j + 1; omega⟩, k1, hL⟩
  · refine Tot.bind1 (spec_FallKeeper_ev L N E a A (by omega) (by omega) (by omega) (by omega)) ?_
    refine next (i2, s2, fallV L N E a A) (by omega) ⟨h2, fallV_KI L N E a A ⟨k1, k2, k3, k4, k5, k6⟩ hA, hA, ?_⟩
    show (if 0 ≤ a ∧ a ≤ (L.length : Int) then L.take a.toNat else L).length ≤ 200
    split
    · rw [List.length_take]; omega
    · exact hL
  · refine Tot.below h2 (by omega) (fun v3 i3 s3 h3 v30 v31 => ?_)
    refine Tot.grd v30 (Tot.grd (by show v3 < (N.length : Int); omega) ?_)
    refine Tot.pick h3 (by simp) (fun v4 i4 s4 h4 _ => ?_)
    refine Tot.item h4 (fun x0 x1 x2 x3 i5 s5 h5 _ => ?_)
    obtain ⟨r, r1, _, r3, r4, r5, r6, r7⟩ := kept_ev L N E a A 1 v3 (wrap64 ((rd N v3) + v4)) x0 x1 x2 x3 (by omega) (by omega) (by omega) (by omega) k3
    refine Tot.bind1 r1 ?_
    obtain ⟨y0, y1, y2, y3, y4, y5⟩ := r
    replace r3 : y0.length ≤ L.length ∨ y0.length ≤ 200 := r3
    replace r4 : y1.length = N.length := r4
    replace r5 : I64s y1 := r5
    replace r6 : y2.length ≤ E.length + 1 := r6
    replace r7 : y4 = A := r7
    subst r7
    exact next (i5, s5, y0, y1, y2, y3, y4) (by omega) ⟨h5, ⟨by show y1.length = 3; omega, k2, r5, k4, by show y0.length ≤ 201; omega, by show y2.length ≤ j + 1; omega⟩, hA, by show y0.length ≤ 200; omega⟩
theorem l20Any_tot (b : List Int) (i s : Int) (h : Rd b i) : Tot (fun k => spec_l20Any.f k b i s) (fun r => ∃ (x : KV) (i' s' : Int), r = (x.1, x.2.1, x.2.2.1, x.2.2.2.1, x.2.2.2.2, b, i', s') ∧ Rd b i' ∧ KI 15 x) := by
  unfold spec_l20Any.f
  refine Tot.below h (by omega) (fun v i1 s1 h1 _ _ => ?_)
  refine Tot.below h1 (by omega) (fun w i2 s2 h2 w0 w1 => ?_)
  refine Tot.bind (l20Keeper_tot b i2 s2 h2) ?_
  rintro _ ⟨⟨L, N, E, a, A⟩, i3, s3, rfl, h3, ⟨k1, k2, k3, k4, k5, k6⟩, hA, hL⟩
  replace k1 : N.length = 3 := k1
  replace k3 : I64s N := k3
  replace k4 : I64s A := k4
  replace k6 : E.length ≤ 14 := k6
  replace hA : A.length = 3 := hA
  replace hL : L.length ≤ 200 := hL
  dsimp only
  refine Tot.bindc1 (spec_l20Copy_of L N E a A (by omega) (by omega) (by omega) (by omega)) ?_
  have hj : ∀ (i s : Int) L N E a A, Rd b i → KI 15 (L, N, E, a, A) → Tot (fun k => spec_l20Any.j0 k b i s L N E a A) (fun r => ∃ (x : KV) (i' s' : Int), r = (x.1, x.2.1, x.2.2.1, x.2.2.2.1, x.2.2.2.2, b, i', s') ∧ Rd b i' ∧ KI 15 x) := fun i s L N E a A hr hk =>
    Tot.step (fun _ => rfl) (Tot.now ⟨(L, N, E, a, A), _, _, rfl, hr, hk⟩)
  have t3 := tmod_of w0 (show (0 : Int) < 3 by omega)
  have t5 := tmod_of w0 (show (0 : Int) < 5 by omega)
  refine Tot.both (fun _ => ?_) (fun _ => Tot.both (fun _ => ?_) (fun _ => Tot.both (fun _ => ?_) (fun _ => Tot.both (fun _ => ?_) (fun _ => Tot.both (fun _ => ?_) (fun _ => ?_)))))
  · exact hj _ _ _ _ _ _ _ h3 ⟨k1, k2, k3, k4, k5, by show E.length ≤ 15; omega⟩
  · refine Tot.grd t3.1 (Tot.grd (by show w.tmod 3 < (N.length : Int); omega) ?_)
    exact hj _ _ _ _ _ _ _ h3 ⟨by show (N.set (w.tmod 3).toNat (w.tmod 5)).length = 3; rw [List.length_set]; omega, k2, k3.set _ (by omega), k4, k5, by show E.length ≤ 15; omega⟩
  · refine Tot.item h3 (fun x0 x1 x2 x3 i5 s5 h5 _ => Tot.grd (by simp; omega) ?_)
    exact hj _ _ _ _ _ _ _ h5 ⟨k1, k2, k3, k4, by simp; omega, by show E.length ≤ 15; omega⟩
  · refine Tot.item h3 (fun x0 x1 x2 x3 i5 s5 h5 _ => Tot.grd (by simp; omega) ?_)
    exact hj _ _ _ _ _ _ _ h5 ⟨k1, k2, k3, k4, k5, by simp; omega⟩
  · refine Tot.grd (by show (1 : Int) ≤ (A.length : Int); omega) ?_
    exact hj _ _ _ _ _ _ _ h3 ⟨k1, by simp; omega, k3, k4.drop 1, k5, by show E.length ≤ 15; omega⟩
  · exact hj _ _ _ _ _ _ _ h3 ⟨k1, k2, k3, k4, k5, by show E.length ≤ 15; omega⟩
theorem sameInts_ev (l : List Int) (hl : l.length ≤ 4611686018427387904) : Ev (fun k => laws_sameInts.f k l l) true := by
  unfold laws_sameInts.f
  refine Ev.pos rfl ?_
  refine same_ev (fun k i => laws_sameInts.l0 k l l i) l ?_ ?_
  · refine Ev.step (f := fun _ => some true) (fun k => ?_) (Ev.now _)
    simp only [laws_sameInts.l0]; rw [if_neg (by omega)]
  · intro i x hx h
    have hi := lt_of hx
    refine Ev.step (fun _ => rfl) ?_
    simp only [laws_sameInts.l0]; rw [w64 (x := (i : Int) + 1) (by omega) (by omega)]
    exact Ev.pos (by omega) (Ev.pos (by omega) (Ev.pos (by omega) (Ev.pos (by simp) h)))
theorem sameItems_ev (l : List S34) (hl : l.length ≤ 4611686018427387904) : Ev (fun k => laws_sameItems.f k l l) true := by
  unfold laws_sameItems.f
  refine Ev.pos rfl ?_
  refine same_ev (fun k i => laws_sameItems.l0 k l l i) l ?_ ?_
  · refine Ev.step (f := fun _ => some true) (fun k => ?_) (Ev.now _)
    simp only [laws_sameItems.l0]; rw [if_neg (by omega)]
  · intro i x hx h
    have hi := lt_of hx
    refine Ev.step (fun _ => rfl) ?_
    simp only [laws_sameItems.l0]; rw [w64 (x := (i : Int) + 1) (by omega) (by omega)]
    exact Ev.pos (by omega) (Ev.pos (by omega) (Ev.pos (by omega) (Ev.pos (by simp) h)))
theorem sameEntries_ev (l : List S98) (hl : l.length ≤ 4611686018427387904) : Ev (fun k => laws_sameEntries.f k l l) true := by
  unfold laws_sameEntries.f
  refine Ev.pos rfl ?_
  refine same_ev (fun k i => laws_sameEntries.l0 k l l i) l ?_ ?_
  · refine Ev.step (f := fun _ => some true) (fun k => ?_) (Ev.now _)
    simp only [laws_sameEntries.l0]; rw [if_neg (by omega)]
  · intro i x hx h
    have hi := lt_of hx
    refine Ev.step (fun _ => rfl) ?_
    simp only [laws_sameEntries.l0]; rw [w64 (x := (i : Int) + 1) (by omega) (by omega)]
    exact Ev.pos (by omega) (Ev.pos (by omega) (Ev.pos (by omega) (Ev.pos (by simp) h)))
theorem sameKeeper_ev (L : List S98) (N : List Int) (E : List S97) (a : Int) (A : List Int) (h0 : L.length ≤ 4611686018427387904) (h1 : N.length ≤ 4611686018427387904) (h2 : E.length ≤ 4611686018427387904) (h4 : A.length ≤ 4611686018427387904) : Ev (fun k => laws_sameKeeper.f k L N E a A L N E a A) true := by
  unfold laws_sameKeeper.f
  refine Ev.bind (sameEntries_ev L h0) (Ev.pos rfl (Ev.bind (sameInts_ev N h1) (Ev.pos rfl (Ev.pos rfl (Ev.pos rfl (Ev.bind (sameInts_ev A h4) (Ev.pos rfl ?_)))))))
  refine same_ev (fun k i => laws_sameKeeper.l0 k L N E a A L N E a A i) E ?_ ?_
  · refine Ev.step (f := fun _ => some true) (fun k => ?_) (Ev.now _)
    simp only [laws_sameKeeper.l0]; rw [if_neg (by omega)]
  · intro i x hx h
    have hi := lt_of hx
    refine Ev.step (fun _ => rfl) ?_
    simp only [laws_sameKeeper.l0]; rw [w64 (x := (i : Int) + 1) (by omega) (by omega)]
    exact Ev.pos (by omega) (Ev.pos (by omega) (Ev.pos (by omega) (Ev.pos (by simp) h)))
theorem keeperNewOk : Ev (fun k => impl_KeeperOk.f k [] [1, 1, 1] [] 0 [1, 1, 1]) true := by
  refine ⟨20, fun k hk => ?_⟩
  obtain ⟨m, rfl⟩ : ∃ m, k = m + 20 := ⟨k - 20, by omega⟩
  show impl_KeeperOk.f (m + 20) [] [1, 1, 1] [] 0 [1, 1, 1] = some true
  kernel_rfl
theorem pure : Pure := by
  intro l hl
  refine Ev.rounds ?_
  unfold laws_FnKeepsTold.f
  refine Ev.bindc rfl ?_
  by_cases hbig : (l.length : Int) > 1048576
  · exact Ev.pos (by simpa using hbig) (Ev.now _)
  refine Ev.neg (by simpa using hbig) ?_
  have hr : Rd l 0 := ⟨by omega, by omega, by omega⟩
  obtain ⟨s0, n0⟩ := l01New_ev l (by omega)
  have d1 : Tot (fun k => spec_DrawKept.f k l) (fun r => ∃ (x : KV) (f0 f1 f2 f3 f4 f5 f6 : Int), r = (x.1, x.2.1, x.2.2.1, x.2.2.2.1, x.2.2.2.2, f0, f1, f2, f3, f4, f5, f6) ∧ KI 15 x) := by
    unfold spec_DrawKept.f
    refine Tot.bind1 n0 ?_
    refine Tot.below hr (by omega) (fun v i1 s1 h1 _ _ => ?_)
    refine Tot.pick h1 (by simp) (fun w i2 s2 h2 _ => ?_)
    refine Tot.bind (l17Any_tot l i2 s2 h2) ?_
    rintro _ ⟨x0, x1, x2, x3, x4, x5, x6, i3, s3, rfl, h3⟩
    refine Tot.bind (l20Any_tot l i3 s3 h3) ?_
    rintro _ ⟨⟨L, N, E, a, A⟩, i4, s4, rfl, h4, k⟩
    dsimp only
    have hN : N.length = 3 := k.1
    have hj : ∀ p, Tot (fun k => spec_DrawKept.j0 k (x0, x1, x2, x3, x4, x5, x6, l, i3, s3) (L, N, E, a, A, l, i4, s4) p) (fun r => ∃ (x : KV) (f0 f1 f2 f3 f4 f5 f6 : Int), r = (x.1, x.2.1, x.2.2.1, x.2.2.2.1, x.2.2.2.2, f0, f1, f2, f3, f4, f5, f6) ∧ KI 15 x) := fun p =>
      Tot.step (fun _ => rfl) (Tot.now ⟨(L, N, E, a, A), _, _, _, _, _, _, _, rfl, k⟩)
    refine Tot.both (fun _ => ?_) (fun _ => hj _)
    refine Tot.bindc1 (spec_l01In_of _ _ _) (Tot.both (fun hc => ?_) (fun _ => hj _))
    have hc' := of_decide_eq_true hc
    rw [w64 (by omega) (by omega)] at hc'
    exact Tot.grd hc'.1 (Tot.grd (by omega) (hj _))
  have d2 : Tot (fun k => spec_DrawKeeperOk.f k l) (KI 15) := by
    unfold spec_DrawKeeperOk.f
    refine Tot.bind1 n0 ?_
    refine Tot.bind (l20Any_tot l 0 s0 hr) ?_
    rintro _ ⟨⟨L, N, E, a, A⟩, i4, s4, rfl, h4, k⟩
    exact Tot.now k
  have d3 : Tot (fun k => spec_DrawAckOf.f k l) (fun r => ∃ (x : KV) (q : Int), r = (x.1, x.2.1, x.2.2.1, x.2.2.2.1, x.2.2.2.2, q) ∧ KI 15 x) := by
    unfold spec_DrawAckOf.f
    refine Tot.bind1 n0 ?_
    refine Tot.below hr (by omega) (fun v i1 s1 h1 _ _ => ?_)
    refine Tot.bind (l20Any_tot l i1 s1 h1) ?_
    rintro _ ⟨⟨L, N, E, a, A⟩, i4, s4, rfl, h4, k⟩
    exact Tot.now ⟨(L, N, E, a, A), _, rfl, k⟩
  obtain ⟨_, e1, ⟨L, N, E, a, A⟩, f0, f1, f2, f3, f4, f5, f6, rfl, k1⟩ := d1
  obtain ⟨⟨L2, N2, E2, a2, A2⟩, e2, k2⟩ := d2
  obtain ⟨_, e3, ⟨L3, N3, E3, a3, A3⟩, q, rfl, k3⟩ := d3
  obtain ⟨p1, p2, p3, p4, p5, p6⟩ := k1
  replace p1 : N.length = 3 := p1
  replace p2 : A.length ≤ 3 := p2
  replace p3 : I64s N := p3
  replace p5 : L.length ≤ 201 := p5
  replace p6 : E.length ≤ 15 := p6
  obtain ⟨q1, q2, q3, q4, q5, q6⟩ := k2
  replace q1 : N2.length = 3 := q1
  replace q2 : A2.length ≤ 3 := q2
  replace q3 : I64s N2 := q3
  replace q4 : I64s A2 := q4
  replace q5 : L2.length ≤ 201 := q5
  replace q6 : E2.length ≤ 15 := q6
  have c1 : L3.length ≤ 201 := k3.2.2.2.2.1
  have c2 : A3.length ≤ 3 := k3.2.1
  obtain ⟨⟨y0, y1, y2, y3, y4, y5⟩, g1, g2, g3, g4, g5, g6, g7⟩ := kept_ev L N E a A f0 f1 f2 f3 f4 f5 f6 (by omega) (by omega) (by omega) (by omega) p3
  replace g3 : y0.length ≤ L.length ∨ y0.length ≤ 200 := g3
  replace g4 : y1.length = N.length := g4
  replace g6 : y2.length ≤ E.length + 1 := g6
  replace g7 : y4 = A := g7
  subst g7
  obtain ⟨z, z1⟩ := ackOf_ex L3 N3 E3 a3 A3 q (by omega)
  have z2 : impl_AckOf.f L3 N3 E3 a3 A3 q = some z := z1
  obtain ⟨o, o1, o2⟩ := keeperOk_ev L2 N2 E2 a2 A2 (by omega) q3 q4
  have s1 := spec_SaveKeeper_of L2 N2 E2 a2 A2 (by omega) (by omega) (by omega) (by omega)
  have s2 := impl_SaveKeeper_of L2 N2 E2 a2 A2 (by omega) (by omega) (by omega) (by omega)
  have t1 := spec_FallKeeper_ev L2 N2 E2 a2 A2 (by omega) (by omega) (by omega) (by omega)
  have t2 := impl_FallKeeper_ev L2 N2 E2 a2 A2 (by omega) (by omega) (by omega) (by omega)
  have tl : (fallV L2 N2 E2 a2 A2).1.length ≤ 201 := by
    show (if 0 ≤ a2 ∧ a2 ≤ (L2.length : Int) then L2.take a2.toNat else L2).length ≤ 201
    split
    · rw [List.length_take]; omega
    · exact q5
  have te : fallV L2 N2 E2 a2 A2 = ((fallV L2 N2 E2 a2 A2).1, A2, [], a2, A2) := rfl
  rw [te] at t1 t2
  generalize (fallV L2 N2 E2 a2 A2).1 = F at t1 t2 tl
  have u1 := spec_EntriesOf_ev L3 N3 E3 a3 A3 q (by omega)
  have u2 := impl_EntriesOf_ev L3 N3 E3 a3 A3 q (by omega)
  have ul : (entriesV q L3).length ≤ L3.length := by have := ent_length q L3 []; simpa [entriesV] using this
  refine Ev.bind e1 (Ev.bind g2 (Ev.bind g1 (Ev.bind e2 (Ev.bind e3 (Ev.bindc z2 (Ev.bindc z1 (Ev.pos rfl ?_)))))))
  refine Ev.bind (sameKeeper_ev _ _ _ _ _ (by dsimp only; omega) (by dsimp only; omega) (by dsimp only; omega) (by dsimp only; omega)) (Ev.pos rfl ?_)
  refine Ev.bind o2 (Ev.bind o1 (Ev.pos rfl (Ev.pos rfl (Ev.pos (by simp) ?_))))
  refine Ev.bindc s2 (Ev.bindc s1 (Ev.bind (sameKeeper_ev _ _ _ _ _ (by dsimp only; omega) (by dsimp only; omega) (by dsimp only; omega) (by dsimp only; omega)) (Ev.pos rfl ?_)))
  refine Ev.bind t2 (Ev.bind t1 (Ev.bind (sameKeeper_ev _ _ _ _ _ (by dsimp only; omega) (by dsimp only; omega) (by dsimp only; simp) (by dsimp only; omega)) (Ev.pos rfl ?_)))
  refine Ev.bind u2 (Ev.bind u1 (Ev.bind (sameItems_ev _ (by omega)) (Ev.pos rfl ?_)))
  exact Ev.bindc rfl (Ev.bind keeperNewOk (Ev.now _))
end Go.Proofs.Ytfeaemlakniijaa.PFnKeepsTold
namespace Go.Proofs.Ytfeaemlakniijaa
/-- The given statement. -/
theorem fnKeepsTold_holds : Rows.FnKeepsToldSaid := AFnKeepsTold.row PFnKeepsTold.pure
#print axioms fnKeepsTold_holds
end Go.Proofs.Ytfeaemlakniijaa
