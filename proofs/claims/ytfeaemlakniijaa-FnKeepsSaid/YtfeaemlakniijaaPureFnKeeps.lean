/- laws.FnKeeps returns true at every input. No condition. -/
import Derived.Test.YtfeaemlakniijaaExFnKeeps
import Derived.Test.YtfeaemlakniijaaArgFnKeeps
set_option linter.unusedVariables false
set_option linter.unusedSimpArgs false
namespace Go.Proofs.Ytfeaemlakniijaa.PFnKeeps
open Go.RowKit Go.Proofs.YtfeaemlakniijaaA Go.Proofs.YtfeaemlakniijaaL Go.Proofs.Ytfeaemlakniijaa.AFnKeeps
theorem i64_of {x : Int} (h : OkN .i64 x) : -9223372036854775808 ≤ x ∧ x ≤ 9223372036854775807 := bounds_i64 h
theorem rd97 {l : List S97} {i : Nat} {x : S97} (h : l[i]? = some x) : rd_T97 l (i : Int) = x := by
  unfold rd_T97; simpa using get_of l z97 h
theorem rd98 {l : List S98} {i : Nat} {x : S98} (h : l[i]? = some x) : rd_T98 l (i : Int) = x := by
  unfold rd_T98; simpa using get_of l z98 h
theorem rd34 {l : List S34} {i : Nat} {x : S34} (h : l[i]? = some x) : rd_T34 l (i : Int) = x := by
  unfold rd_T34; simpa using get_of l z34 h
theorem itemok_eq (a b c d : Int) : impl_ItemOk.f a b c d = spec_ItemOk.f a b c d := rfl
def itemOk (x : S34) : Bool := decide ((x.f0 = 1 ∧ (0 ≤ x.f1 ∧ x.f1 ≤ 4294967295) ∧ (0 ≤ x.f2 ∧ x.f2 ≤ 4294967295) ∧ x.f3 = 0) ∨ (x.f0 = 2 ∧ (1 ≤ x.f3 ∧ x.f3 ≤ 1000000000) ∧ x.f1 = 0 ∧ x.f2 = 0))
theorem spec_l01In_of (x lo hi : Int) : spec_l01In.f x lo hi = some (decide (lo ≤ x ∧ x ≤ hi)) := by
  unfold spec_l01In.f
  rw [ite_some]; congr 1; rw [Bool.eq_iff_iff]
  by_cases h : x ≥ lo <;> simp [h] <;> omega
theorem spec_ItemOk_of (x : S34) : spec_ItemOk.f x.f0 x.f1 x.f2 x.f3 = some (itemOk x) := by
  unfold spec_ItemOk.f itemOk spec_HalfOk.f
  simp only [spec_l01In_of, Option.bind_some, ite_some]
  congr 1; rw [Bool.eq_iff_iff]
  by_cases h1 : x.f0 = 1
  · simp [h1]
  · by_cases h2 : x.f0 = 2 <;> simp [h1, h2]
theorem impl_ItemOk_of (x : S34) : impl_ItemOk.f x.f0 x.f1 x.f2 x.f3 = some (itemOk x) := (itemok_eq _ _ _ _).trans (spec_ItemOk_of x)
theorem spec_l20Copy_of (x0 : List S98) (x1 : List Int) (x2 : List S97) (a : Int) (x4 : List Int) (h0 : x0.length ≤ 1048576) (h1 : x1.length ≤ 1048576) (h2 : x2.length ≤ 1048576) (h4 : x4.length ≤ 1048576) : spec_l20Copy.f x0 x1 x2 a x4 = some (x0, x1, x2, a, x4) := by
  unfold spec_l20Copy.f
  simp only [Option.bind_some, List.length_nil, List.nil_append]
  rw [if_pos (by omega), if_pos (by omega), if_pos (by omega), if_pos (by omega)]
theorem impl_copyInts_of (x : List Int) (h : x.length ≤ 1048576) : impl_copyInts.f x = some x := by
  unfold impl_copyInts.f
  simp only [Option.bind_some, List.length_nil, List.nil_append]
  rw [if_pos (by omega)]
theorem impl_copyKeeper_of (x0 : List S98) (x1 : List Int) (x2 : List S97) (a : Int) (x4 : List Int) (h0 : x0.length ≤ 1048576) (h1 : x1.length ≤ 1048576) (h2 : x2.length ≤ 1048576) (h4 : x4.length ≤ 1048576) : impl_copyKeeper.f x0 x1 x2 a x4 = some (x0, x1, x2, a, x4) := by
  unfold impl_copyKeeper.f
  rw [impl_copyInts_of x1 h1, impl_copyInts_of x4 h4]
  simp only [Option.bind_some, List.length_nil, List.nil_append]
  rw [if_pos (by omega), if_pos (by omega)]
theorem item_ok (a b c d : Int) : ∃ r : Bool, spec_ItemOk.f a b c d = some r ∧ (r = true → 0 ≤ d ∧ d ≤ 1000000000) := by
  unfold spec_ItemOk.f spec_HalfOk.f
  simp only [spec_l01In_of, Option.bind_some]
  by_cases h1 : a = 1
  · rw [if_pos h1]
    by_cases h2 : 0 ≤ b ∧ b ≤ 4294967295
    · rw [if_pos (by simpa using h2)]
      by_cases h3 : 0 ≤ c ∧ c ≤ 4294967295
      · rw [if_pos (by simpa using h3)]; exact ⟨_, rfl, fun h => by have := beq_iff_eq.1 h; omega⟩
      · rw [if_neg (by simpa using h3)]; exact ⟨_, rfl, fun h => by cases h⟩
    · rw [if_neg (by simpa using h2)]; exact ⟨_, rfl, fun h => by cases h⟩
  · rw [if_neg h1]
    by_cases h2 : a = 2
    · rw [if_pos h2]
      by_cases h3 : 1 ≤ d ∧ d ≤ 1000000000
      · rw [if_pos (by simpa using h3)]
        by_cases h4 : b = 0
        · rw [if_pos h4]; exact ⟨_, rfl, fun _ => by omega⟩
        · rw [if_neg h4]; exact ⟨_, rfl, fun h => by cases h⟩
      · rw [if_neg (by simpa using h3)]; exact ⟨_, rfl, fun h => by cases h⟩
    · rw [if_neg h2]; exact ⟨_, rfl, fun h => by cases h⟩
theorem within_eq (x lo hi : Int) : impl_within.f x lo hi = spec_l01In.f x lo hi := rfl
theorem isPid_of (a : Int) : impl_isPid.f a = spec_l01In.f a 0 2 := by
  show (spec_l01In.f a 0 2).bind (fun t => some t) = _
  cases spec_l01In.f a 0 2 <;> rfl
theorem frameOk_eq (x0 x1 x2 x3 x4 x5 x6 : Int) : impl_FrameOk.f x0 x1 x2 x3 x4 x5 x6 = spec_FrameOk.f x0 x1 x2 x3 x4 x5 x6 := by
  unfold impl_FrameOk.f spec_FrameOk.f
  rw [isPid_of]; rfl
theorem frameOk_of (x0 x1 x2 x3 x4 x5 x6 : Int) : ∃ b : Bool, spec_FrameOk.f x0 x1 x2 x3 x4 x5 x6 = some b ∧ (b = true → (0 ≤ x1 ∧ x1 ≤ 2) ∧ (1 ≤ x2 ∧ x2 ≤ 1000000000) ∧ 0 ≤ x6 ∧ x6 ≤ 1000000000) := by
  unfold spec_FrameOk.f
  simp only [spec_l01In_of, Option.bind_some]
  by_cases h1 : 0 ≤ x1 ∧ x1 ≤ 2
  · rw [if_pos (by simpa using h1)]
    by_cases h2 : 1 ≤ x2 ∧ x2 ≤ 1000000000
    · rw [if_pos (by simpa using h2)]
      by_cases h3 : x0 = 1
      · obtain ⟨r, hr, hr'⟩ := item_ok x3 x4 x5 x6
        rw [if_pos h3, hr]
        exact ⟨r, rfl, fun h => ⟨h1, h2, hr' h⟩⟩
      · rw [if_neg h3]
        by_cases h4 : x0 = 2
        · rw [if_pos h4]
          refine ⟨_, rfl, fun h => ⟨h1, h2, ?_⟩⟩
          simp at h; omega
        · rw [if_neg h4]; exact ⟨_, rfl, fun h => by cases h⟩
    · rw [if_neg (by simpa using h2)]; exact ⟨_, rfl, fun h => by cases h⟩
  · rw [if_neg (by simpa using h1)]; exact ⟨_, rfl, fun h => by cases h⟩
theorem rd_set (N : List Int) (p v : Int) (h0 : 0 ≤ p) (h1 : p < (N.length : Int)) : rd (N.set p.toNat v) p = v := by
  unfold rd
  rw [List.getD_eq_getElem?_getD, List.getElem?_set_self (by omega)]; rfl
/-- Where it stands among what came early. -/
theorem early_ev (E : List S97) (hE : E.length ≤ 1048577) (p s : Int) : ∀ (d i : Nat), E.length - i = d → i ≤ E.length → ∃ t : Int, Ev (fun k => spec_l20Early.l0 k E p s (i : Int)) t ∧ Ev (fun k => impl_earlyAt.l0 k E p s (i : Int)) t ∧
    ((t = -1 ∧ ∀ (j : Nat) (x : S97), i ≤ j → E[j]? = some x → ¬ (x.f0 = p ∧ x.f1 = s)) ∨ ∃ (j : Nat) (x : S97), t = j ∧ E[j]? = some x ∧ x.f0 = p ∧ x.f1 = s) := by
  intro d
  induction d with
  | zero =>
    intro i hd hi
    refine ⟨-1, Ev.step (fun _ => rfl) ?_, Ev.step (fun _ => rfl) ?_, .inl ⟨rfl, fun j x hj hx => by have := (List.getElem?_eq_some_iff.1 hx).1; omega⟩⟩
    · simp only [spec_l20Early.l0]; exact Ev.neg (by omega) (Ev.now _)
    · simp only [impl_earlyAt.l0]; exact Ev.neg (by omega) (Ev.now _)
  | succ d ih =>
    intro i hd hi
    have hx : E[i]? = some E[i] := List.getElem?_eq_getElem (by omega)
    by_cases h : E[i].f0 = p ∧ E[i].f1 = s
    · refine ⟨(i : Int), Ev.step (fun _ => rfl) ?_, Ev.step (fun _ => rfl) ?_, .inr ⟨i, E[i], rfl, hx, h.1, h.2⟩⟩
      · simp only [spec_l20Early.l0]; rw [rd97 hx]
        exact Ev.pos (by omega) (Ev.pos (by omega) (Ev.pos h.1 (Ev.pos h.2 (Ev.now _))))
      · simp only [impl_earlyAt.l0]; rw [rd97 hx]
        exact Ev.pos (by omega) (Ev.pos (by omega) (Ev.pos h.1 (Ev.pos h.2 (Ev.now _))))
    · obtain ⟨t, t1, t2, t3⟩ := ih (i + 1) (by omega) (by omega)
      have t4 : (t = -1 ∧ ∀ (j : Nat) (x : S97), i ≤ j → E[j]? = some x → ¬ (x.f0 = p ∧ x.f1 = s)) ∨ ∃ (j : Nat) (x : S97), t = j ∧ E[j]? = some x ∧ x.f0 = p ∧ x.f1 = s := by
        rcases t3 with ⟨h3, h4⟩ | h3
        · refine .inl ⟨h3, fun j x hj hx' => ?_⟩
          by_cases hji : j = i
          · subst hji
            have := hx.symm.trans hx'
            injection this with this
            subst this
            exact h
          · exact h4 j x (by omega) hx'
        · exact .inr h3
      clear t3
      have a1 : (i : Int) < (E.length : Int) := by clear t4; omega
      have a2 : 0 ≤ (i : Int) := by clear t4; omega
      have a3 : wrap64 ((i : Int) + 1) = ((i + 1 : Nat) : Int) := by clear t4; rw [w64 (by omega) (by omega)]; omega
      refine ⟨t, Ev.step (fun _ => rfl) ?_, Ev.step (fun _ => rfl) ?_, t4⟩
      · simp only [spec_l20Early.l0]; rw [rd97 hx, a3]
        exact Ev.pos a1 (Ev.pos a2 (Ev.both (fun h1 => Ev.neg (fun h2 => h ⟨h1, h2⟩) t1) (fun _ => t1)))
      · simp only [impl_earlyAt.l0]; rw [rd97 hx, a3]
        exact Ev.pos a1 (Ev.pos a2 (Ev.both (fun h1 => Ev.neg (fun h2 => h ⟨h1, h2⟩) t2) (fun _ => t2)))
theorem earlyAt_ev (E : List S97) (hE : E.length ≤ 1048577) (p s : Int) : ∃ t : Int, Ev (fun k => spec_l20Early.f k E p s) t ∧ Ev (fun k => impl_earlyAt.f k E p s) t ∧
    ((t = -1 ∧ ∀ (j : Nat) (x : S97), 0 ≤ j → E[j]? = some x → ¬ (x.f0 = p ∧ x.f1 = s)) ∨ ∃ (j : Nat) (x : S97), t = j ∧ E[j]? = some x ∧ x.f0 = p ∧ x.f1 = s) := early_ev E hE p s E.length 0 rfl (by omega)
theorem wrap_rng (x : Int) : -9223372036854775808 ≤ wrap64 x ∧ wrap64 x ≤ 9223372036854775807 := by unfold wrap64; omega
abbrev KR := List S98 × List Int × List S97 × Int × List Int × Bool
def I64s (l : List Int) : Prop := ∀ v ∈ l, -9223372036854775808 ≤ v ∧ v ≤ 9223372036854775807
theorem I64s.set {l : List Int} (h : I64s l) (i : Nat) {v : Int} (hv : -9223372036854775808 ≤ v ∧ v ≤ 9223372036854775807) : I64s (l.set i v) := by
  intro u hu
  rcases List.mem_or_eq_of_mem_set hu with hu | rfl
  · exact h u hu
  · exact hv
/-- How the loop ends. -/
def KE (p : Int) (N : List Int) (a : Int) (A : List Int) (Inv : List S98 → List S97 → Int → Prop) (r : KR) : Prop := ∃ L' E' x', r = (L', N.set p.toNat x', E', a, A, true) ∧ Inv L' E' x' ∧ (200 ≤ L'.length ∨ ∀ y ∈ E', ¬ (y.f0 = p ∧ y.f1 = x'))
/-- The loop: what came early follows. -/
theorem keptLoop (p s q0 q1 q2 q3 kd : Int) (a : Int) (N A : List Int) (c0 : List S98) (c2 : List S97) (h0 : 0 ≤ p) (h1 : p < (N.length : Int)) : ∀ (d : Nat) (L : List S98) (E : List S97) (x : Int), 200 - L.length = d → L.length ≤ 200 → E.length ≤ 1048577 → -9223372036854775808 ≤ x ∧ x ≤ 9223372036854775807 →
    ∃ r : KR, Ev (fun k => spec_Kept.l0 k kd p s q0 q1 q2 q3 (c0, N, c2, a, A) L E x) r ∧ Ev (fun k => impl_Kept.l0 k kd p s q0 q1 q2 q3 (c0, N, c2, a, A) L (N.set p.toNat x) E) r ∧
      r.1.length ≤ 200 ∧ (∃ y, r.2.1 = N.set p.toNat y ∧ -9223372036854775808 ≤ y ∧ y ≤ 9223372036854775807) ∧ r.2.2.1.length ≤ E.length ∧ r.2.2.2.1 = a ∧ r.2.2.2.2.1 = A ∧
      (∀ Inv : List S98 → List S97 → Int → Prop, (∀ L E x (j : Nat) y, L.length < 200 → E[j]? = some y → y.f0 = p → y.f1 = x → Inv L E x → Inv (L ++ [⟨p, x, ⟨y.f2.f0, y.f2.f1, y.f2.f2, y.f2.f3⟩⟩]) (E.eraseIdx j) (wrap64 (x + 1))) → Inv L E x → KE p N a A Inv r) := by
  intro d
  have j1 : ∀ (L : List S98) (E : List S97) (x : Int), Ev (fun k => spec_Kept.j1 k kd p s q0 q1 q2 q3 (c0, N, c2, a, A) L E x) (L, N.set p.toNat x, E, a, A, true) := fun L E x => by
    refine Ev.step (fun _ => rfl) ?_
    simp only [spec_Kept.j1]; exact Ev.pos h1 (Ev.now _)
  induction d with
  | zero =>
    intro L E x hd hl hE hx
    refine ⟨(L, N.set p.toNat x, E, a, A, true), Ev.step (fun _ => rfl) ?_, Ev.step (fun _ => rfl) ?_, by omega, ⟨x, rfl, hx⟩, Nat.le_refl _, rfl, rfl, fun Inv _ h => ⟨L, E, x, rfl, h, .inl (by omega)⟩⟩
    · simp only [spec_Kept.l0]; exact Ev.neg (by omega) (j1 _ _ _)
    · simp only [impl_Kept.l0]; exact Ev.neg (by omega) (Ev.now _)
  | succ d ih =>
    intro L E x hd hl hE hx
    obtain ⟨t, t1, t2, t3⟩ := earlyAt_ev E hE p x
    rcases t3 with ⟨rfl, tn⟩ | ⟨j, y, rfl, hy, hp, hs⟩
    · refine ⟨(L, N.set p.toNat x, E, a, A, true), Ev.step (fun _ => rfl) ?_, Ev.step (fun _ => rfl) ?_, by omega, ⟨x, rfl, hx⟩, Nat.le_refl _, rfl, rfl, fun Inv _ h => ⟨L, E, x, rfl, h, .inr fun y hy => ?_⟩⟩
      rotate_left 2
      · obtain ⟨i, hi, rfl⟩ := List.getElem_of_mem hy
        exact tn i _ (Nat.zero_le _) (List.getElem?_eq_getElem hi)
      · simp only [spec_Kept.l0]; exact Ev.pos (by omega) (Ev.bind t1 (Ev.pos (by omega) (j1 _ _ _)))
      · simp only [impl_Kept.l0]; rw [rd_set N p x h0 h1]
        exact Ev.pos (by omega) (Ev.pos (by simp; omega) (Ev.bind t2 (Ev.pos (by omega) (Ev.now _))))
    · have hj := (List.getElem?_eq_some_iff.1 hy).1
      obtain ⟨r, r1, r2, r3, r4, r5, r6, r7, r8⟩ := ih (L ++ [⟨p, x, ⟨y.f2.f0, y.f2.f1, y.f2.f2, y.f2.f3⟩⟩]) (E.eraseIdx j) (wrap64 (x + 1)) (by simp; omega) (by simp; omega) (by rw [List.length_eraseIdx]; split <;> omega) (wrap_rng _)
      have hlen : (E.eraseIdx j).length ≤ E.length := by rw [List.length_eraseIdx]; split <;> omega
      have e : (E.take j ++ E.drop (j + 1)) = E.eraseIdx j := (List.eraseIdx_eq_take_drop_succ E j).symm
      have l1 : (E.take j).length ≤ E.length := by rw [List.length_take]; omega
      have l2 : (E.drop (j + 1)).length ≤ E.length := by rw [List.length_drop]; omega
      refine ⟨r, Ev.step (fun _ => rfl) ?_, Ev.step (fun _ => rfl) ?_, r3, r4, by omega, r6, r7, fun Inv hs_ h => r8 Inv hs_ (hs_ L E x j y (by omega) hy hp hs h)⟩
      · simp only [spec_Kept.l0]
        refine Ev.pos (by omega) (Ev.bind t1 ?_)
        rw [rd97 hy]
        simp -implicitDefEqProofs only [List.nil_append, Int.toNat_natCast]
        rw [w64 (x := (j : Int) + 1) (by omega) (by omega), show ((j : Int) + 1).toNat = j + 1 by omega, e]
        refine Ev.neg (by omega) (Ev.pos (by omega) (Ev.pos (by omega) (Ev.pos (by simp only [List.length_cons, List.length_nil]; omega) (Ev.pos (by omega) (Ev.pos (by simp only [List.length_nil]; omega) (Ev.pos (by omega) (Ev.pos (by omega) (Ev.pos (by omega) r1))))))))
      · simp only [impl_Kept.l0]
        rw [rd_set N p x h0 h1]
        refine Ev.pos (by omega) (Ev.pos (by simp; omega) (Ev.bind t2 ?_))
        rw [rd97 hy, hp, hs, List.set_set, w64 (x := (j : Int) + 1) (by omega) (by omega), Int.toNat_natCast, show ((j : Int) + 1).toNat = j + 1 by omega, e]
        exact Ev.neg (by omega) (Ev.pos (by omega) (Ev.pos (by omega) (Ev.pos (by omega) (Ev.pos (by omega) (Ev.pos (by omega) (Ev.pos (by omega) (Ev.pos (by simp only [List.length_cons, List.length_nil]; omega) r2)))))))
/-- What the result keeps of the keeper. -/
def KB (x0 : List S98) (x1 : List Int) (x2 : List S97) (x4 : List Int) (r : KR) : Prop := (r.1.length ≤ x0.length ∨ r.1.length ≤ 200) ∧ r.2.1.length = x1.length ∧ I64s r.2.1 ∧ r.2.2.1.length ≤ x2.length + 1 ∧ r.2.2.2.2.1 = x4
/-- What Kept comes to. -/
def KD (x0 : List S98) (x1 : List Int) (x2 : List S97) (a : Int) (x4 : List Int) (kd p s q0 q1 q2 q3 : Int) (r : KR) : Prop :=
  r = (x0, x1, x2, a, x4, false) ∨
  (spec_FrameOk.f kd p s q0 q1 q2 q3 = some true ∧ kd = 1 ∧ p < (x1.length : Int) ∧ s > rd x1 p ∧ (∀ y ∈ x2, ¬ (y.f0 = p ∧ y.f1 = s)) ∧ x2.length < 3 ∧ r = (x0, x1, x2 ++ [⟨p, s, ⟨q0, q1, q2, q3⟩⟩], a, x4, false)) ∨
  (spec_FrameOk.f kd p s q0 q1 q2 q3 = some true ∧ kd = 1 ∧ p < (x1.length : Int) ∧ s = rd x1 p ∧ x0.length < 200 ∧
    ∀ Inv : List S98 → List S97 → Int → Prop, (∀ L E x (j : Nat) y, L.length < 200 → E[j]? = some y → y.f0 = p → y.f1 = x → Inv L E x → Inv (L ++ [⟨p, x, ⟨y.f2.f0, y.f2.f1, y.f2.f2, y.f2.f3⟩⟩]) (E.eraseIdx j) (wrap64 (x + 1))) → Inv (x0 ++ [⟨p, s, ⟨q0, q1, q2, q3⟩⟩]) x2 (wrap64 (s + 1)) → KE p x1 a x4 Inv r)
theorem kept_ev (x0 : List S98) (x1 : List Int) (x2 : List S97) (a : Int) (x4 : List Int) (kd p s q0 q1 q2 q3 : Int) (h0 : x0.length ≤ 1048576) (h1 : x1.length ≤ 1048576) (h2 : x2.length ≤ 1048576) (h4 : x4.length ≤ 1048576)
    (hb : I64s x1) :
    ∃ r : KR, Ev (fun k => spec_Kept.f k x0 x1 x2 a x4 kd p s q0 q1 q2 q3) r ∧ Ev (fun k => impl_Kept.f k x0 x1 x2 a x4 kd p s q0 q1 q2 q3) r ∧ KB x0 x1 x2 x4 r ∧ KD x0 x1 x2 a x4 kd p s q0 q1 q2 q3 r := by
  obtain ⟨b, f1, f2⟩ := frameOk_of kd p s q0 q1 q2 q3
  have f3 : impl_FrameOk.f kd p s q0 q1 q2 q3 = some b := (frameOk_eq kd p s q0 q1 q2 q3).trans f1
  have same : KB x0 x1 x2 x4 (x0, x1, x2, a, x4, false) ∧ KD x0 x1 x2 a x4 kd p s q0 q1 q2 q3 (x0, x1, x2, a, x4, false) := ⟨⟨.inl (Nat.le_refl _), rfl, hb, Nat.le_succ _, rfl⟩, .inl rfl⟩
  have c1 := spec_l20Copy_of x0 x1 x2 a x4 h0 h1 h2 h4
  have c2 := impl_copyKeeper_of x0 x1 x2 a x4 h0 h1 h2 h4
  unfold spec_Kept.f impl_Kept.f
  cases b with
  | false => exact ⟨_, Ev.bindc c1 (Ev.bindc f1 (Ev.neg (by simp) (Ev.now _))), Ev.bindc c2 (Ev.bindc f3 (Ev.neg (by simp) (Ev.now _))), same⟩
  | true =>
    obtain ⟨hp, hs, _⟩ := f2 rfl
    by_cases hk : kd = 1
    · by_cases hq : p ≥ (x1.length : Int)
      · exact ⟨_, Ev.bindc c1 (Ev.bindc f1 (Ev.pos rfl (Ev.pos hk (Ev.pos hq (Ev.now _))))), Ev.bindc c2 (Ev.bindc f3 (Ev.pos rfl (Ev.pos hk (Ev.pos hq (Ev.now _))))), same⟩
      · by_cases h200 : (x0.length : Int) ≥ 200
        · exact ⟨_, Ev.bindc c1 (Ev.bindc f1 (Ev.pos rfl (Ev.pos hk (Ev.neg hq (Ev.pos h200 (Ev.now _)))))), Ev.bindc c2 (Ev.bindc f3 (Ev.pos rfl (Ev.pos hk (Ev.neg hq (Ev.pos h200 (Ev.now _)))))), same⟩
        · have hv : -9223372036854775808 ≤ rd x1 p ∧ rd x1 p ≤ 9223372036854775807 := by
            have hx : x1[p.toNat]? = some x1[p.toNat] := List.getElem?_eq_getElem (by omega)
            have : rd x1 p = x1[p.toNat] := by unfold rd; exact get_of x1 0 hx
            rw [this]; exact hb _ (List.getElem_mem _)
          by_cases hn : s = rd x1 p
          · obtain ⟨r, r1, r2, r3, ⟨y, r4, r4'⟩, r5, r6, r7, r8⟩ := keptLoop p s q0 q1 q2 q3 kd a x1 x4 x0 x2 hp.1 (by omega) _ (x0 ++ [⟨p, s, ⟨q0, q1, q2, q3⟩⟩]) x2 (wrap64 (rd x1 p + 1)) rfl (by simp; omega) (by omega) (wrap_rng _)
            refine ⟨r, Ev.bindc c1 (Ev.bindc f1 (Ev.pos rfl (Ev.pos hk (Ev.neg hq (Ev.neg h200 (Ev.pos hp.1 (Ev.pos (by omega) (Ev.pos hn (Ev.pos (by simp only [List.length_cons, List.length_nil]; omega) r1))))))))), Ev.bindc c2 (Ev.bindc f3 (Ev.pos rfl (Ev.pos hk (Ev.neg hq (Ev.neg h200 (Ev.pos hp.1 (Ev.pos (by omega) (Ev.pos hn (Ev.pos (by simp only [List.length_cons, List.length_nil]; omega) (Ev.pos (by dsimp only; omega) r2)))))))))), ⟨.inr r3, by rw [r4, List.length_set], by rw [r4]; exact hb.set _ r4', by omega, r7⟩, .inr (.inr ⟨f1, hk, by omega, hn, by omega, by rw [hn]; rw [hn] at r8; exact r8⟩)⟩
          · obtain ⟨t, t1, t2, t3⟩ := earlyAt_ev x2 (by omega) p s
            have w1 : wrap64 (s - 3) = s - 3 := w64 (by omega) (by omega)
            have jF : Ev (fun k => spec_Kept.j0 k kd p s q0 q1 q2 q3 (x0, x1, x2, a, x4) false) (x0, x1, x2, a, x4, false) ∧ Ev (fun k => impl_Kept.j0 k kd p s q0 q1 q2 q3 (x0, x1, x2, a, x4) false) (x0, x1, x2, a, x4, false) :=
              ⟨Ev.step (fun _ => rfl) (by simp only [spec_Kept.j0]; exact Ev.neg (by simp) (Ev.now _)), Ev.step (fun _ => rfl) (by simp only [impl_Kept.j0]; exact Ev.neg (by simp) (Ev.now _))⟩
            have jb : ∀ b : Bool, (b = true → s > rd x1 p ∧ (∀ y ∈ x2, ¬ (y.f0 = p ∧ y.f1 = s)) ∧ (x2.length : Int) < 3) → ∃ r : KR, Ev (fun k => spec_Kept.j0 k kd p s q0 q1 q2 q3 (x0, x1, x2, a, x4) b) r ∧ Ev (fun k => impl_Kept.j0 k kd p s q0 q1 q2 q3 (x0, x1, x2, a, x4) b) r ∧ KB x0 x1 x2 x4 r ∧ KD x0 x1 x2 a x4 kd p s q0 q1 q2 q3 r := by
              intro b hbt
              cases b with
              | false => exact ⟨_, jF.1, jF.2, same⟩
              | true =>
                exact ⟨(x0, x1, x2 ++ [⟨p, s, ⟨q0, q1, q2, q3⟩⟩], a, x4, false), Ev.step (fun _ => rfl) (by simp only [spec_Kept.j0]; exact Ev.pos (by first | trivial | rfl) (Ev.pos (by simp only [List.length_cons, List.length_nil]; omega) (Ev.now _))), Ev.step (fun _ => rfl) (by simp only [impl_Kept.j0]; exact Ev.pos (by first | trivial | rfl) (Ev.pos (by simp only [List.length_cons, List.length_nil]; omega) (Ev.now _))), ⟨.inl (Nat.le_refl _), rfl, hb, by simp, rfl⟩, .inr (.inl ⟨f1, hk, by omega, (hbt rfl).1, (hbt rfl).2.1, by have := (hbt rfl).2.2; omega, rfl⟩)⟩
            by_cases hg : s > rd x1 p
            · have w2 : wrap64 (rd x1 p + 3) = rd x1 p + 3 := w64 (by omega) (by omega)
              by_cases hl : s - 3 ≤ rd x1 p
              · by_cases ht : t < 0
                · obtain ⟨r, r1, r2, r3⟩ := jb (decide ((x2.length : Int) < 3)) (fun hd => ⟨hg, by
                    rcases t3 with ⟨_, tn⟩ | ⟨j, y, rfl, _⟩
                    · intro y hy
                      obtain ⟨i, hi, rfl⟩ := List.getElem_of_mem hy
                      exact tn i _ (Nat.zero_le _) (List.getElem?_eq_getElem hi)
                    · omega, of_decide_eq_true hd⟩)
                  exact ⟨r, Ev.bindc c1 (Ev.bindc f1 (Ev.pos rfl (Ev.pos hk (Ev.neg hq (Ev.neg h200 (Ev.pos hp.1 (Ev.pos (by omega) (Ev.neg hn (Ev.pos hg (Ev.pos (by rw [w1]; exact hl) (Ev.bind t1 (Ev.pos ht r1)))))))))))), Ev.bindc c2 (Ev.bindc f3 (Ev.pos rfl (Ev.pos hk (Ev.neg hq (Ev.neg h200 (Ev.pos hp.1 (Ev.pos (by omega) (Ev.neg hn (Ev.pos hg (Ev.pos (by rw [w2]; omega) (Ev.bind t2 (Ev.pos ht r2)))))))))))), r3⟩
                · exact ⟨_, Ev.bindc c1 (Ev.bindc f1 (Ev.pos rfl (Ev.pos hk (Ev.neg hq (Ev.neg h200 (Ev.pos hp.1 (Ev.pos (by omega) (Ev.neg hn (Ev.pos hg (Ev.pos (by rw [w1]; exact hl) (Ev.bind t1 (Ev.neg ht jF.1)))))))))))), Ev.bindc c2 (Ev.bindc f3 (Ev.pos rfl (Ev.pos hk (Ev.neg hq (Ev.neg h200 (Ev.pos hp.1 (Ev.pos (by omega) (Ev.neg hn (Ev.pos hg (Ev.pos (by rw [w2]; omega) (Ev.bind t2 (Ev.neg ht jF.2)))))))))))), same⟩
              · exact ⟨_, Ev.bindc c1 (Ev.bindc f1 (Ev.pos rfl (Ev.pos hk (Ev.neg hq (Ev.neg h200 (Ev.pos hp.1 (Ev.pos (by omega) (Ev.neg hn (Ev.pos hg (Ev.neg (by rw [w1]; exact hl) jF.1)))))))))), Ev.bindc c2 (Ev.bindc f3 (Ev.pos rfl (Ev.pos hk (Ev.neg hq (Ev.neg h200 (Ev.pos hp.1 (Ev.pos (by omega) (Ev.neg hn (Ev.pos hg (Ev.neg (by rw [w2]; omega) jF.2)))))))))), same⟩
            · exact ⟨_, Ev.bindc c1 (Ev.bindc f1 (Ev.pos rfl (Ev.pos hk (Ev.neg hq (Ev.neg h200 (Ev.pos hp.1 (Ev.pos (by omega) (Ev.neg hn (Ev.neg hg jF.1))))))))), Ev.bindc c2 (Ev.bindc f3 (Ev.pos rfl (Ev.pos hk (Ev.neg hq (Ev.neg h200 (Ev.pos hp.1 (Ev.pos (by omega) (Ev.neg hn (Ev.neg hg jF.2))))))))), same⟩
    · exact ⟨_, Ev.bindc c1 (Ev.bindc f1 (Ev.pos rfl (Ev.neg hk (Ev.now _)))), Ev.bindc c2 (Ev.bindc f3 (Ev.pos rfl (Ev.neg hk (Ev.now _)))), same⟩
theorem within_of (x lo hi : Int) : impl_within.f x lo hi = some (decide (lo ≤ x ∧ x ≤ hi)) := spec_l01In_of x lo hi
theorem isPid_dec (a : Int) : impl_isPid.f a = some (decide (0 ≤ a ∧ a ≤ 2)) := by
  unfold impl_isPid.f
  rw [within_of]; rfl
abbrev En := S98
abbrev Er := S97
theorem rd_get (c : List Int) (p : Int) (h0 : 0 ≤ p) (h1 : p < (c.length : Int)) : ∃ h : p.toNat < c.length, rd c p = c[p.toNat] := by
  have h : p.toNat < c.length := by omega
  exact ⟨h, by unfold rd; exact get_of c 0 (List.getElem?_eq_getElem h)⟩
theorem rd_mem (c : List Int) (p : Int) (h0 : 0 ≤ p) (h1 : p < (c.length : Int)) : rd c p ∈ c := by
  obtain ⟨h, e⟩ := rd_get c p h0 h1
  rw [e]; exact List.getElem_mem h
theorem rd_set_ne (N : List Int) (p q v : Int) (h0 : 0 ≤ p) (h1 : 0 ≤ q) (h : p ≠ q) : rd (N.set p.toNat v) q = rd N q := by
  unfold rd
  rw [List.getD_eq_getElem?_getD, List.getD_eq_getElem?_getD, List.getElem?_set_ne (by omega)]
def okE (e : En) : Bool := decide (0 ≤ e.f0 ∧ e.f0 ≤ 2) && itemOk e.f2
def bump (c : List Int) (p : Int) : List Int := c.set p.toNat (rd c p + 1)
def good : List En → List Int → Bool
  | [], _ => true
  | e :: L, c => okE e && (e.f1 == rd c e.f0 + 1) && good L (bump c e.f0)
def bumps : List En → List Int → List Int
  | [], c => c
  | e :: L, c => bumps L (bump c e.f0)
def Bd (c : List Int) (i : Nat) : Prop := c.length = 3 ∧ ∀ v ∈ c, 0 ≤ v ∧ v ≤ (i : Int)
theorem Bd.up {c : List Int} {i j : Nat} (h : Bd c i) (hij : i ≤ j) : Bd c j := ⟨h.1, fun v hv => by have := h.2 v hv; omega⟩
theorem Bd.rd {c : List Int} {i : Nat} (h : Bd c i) {p : Int} (h0 : 0 ≤ p) (h1 : p ≤ 2) : 0 ≤ rd c p ∧ rd c p ≤ (i : Int) := h.2 _ (rd_mem c p h0 (by have := h.1; omega))
theorem Bd.bump {c : List Int} {i : Nat} (h : Bd c i) {p : Int} (h0 : 0 ≤ p) (h1 : p ≤ 2) : Bd (bump c p) (i + 1) := by
  refine ⟨by simpa [PFnKeeps.bump] using h.1, fun v hv => ?_⟩
  rcases List.mem_or_eq_of_mem_set hv with hv | rfl
  · have := h.2 v hv; omega
  · have := h.rd h0 h1; omega
theorem bd0 : Bd (List.replicate 3 0) 0 := ⟨rfl, fun v hv => by have := List.eq_of_mem_replicate hv; omega⟩
theorem okE_pid {e : En} (h : okE e = true) : 0 ≤ e.f0 ∧ e.f0 ≤ 2 := by
  unfold okE at h; rw [Bool.and_eq_true] at h; simpa using h.1
theorem good_cons (e : En) (L : List En) (c : List Int) : good (e :: L) c = true ↔ okE e = true ∧ e.f1 = rd c e.f0 + 1 ∧ good L (bump c e.f0) = true := by
  simp [good, and_assoc]
theorem good_app (X Y : List En) : ∀ c, good (X ++ Y) c = true ↔ good X c = true ∧ good Y (bumps X c) = true := by
  induction X with
  | nil => intro c; simp [good, bumps]
  | cons e X ih => intro c; rw [List.cons_append, good_cons, good_cons, ih]; simp [bumps, and_assoc]
theorem bumps_app (X Y : List En) : ∀ c, bumps (X ++ Y) c = bumps Y (bumps X c) := by
  induction X with
  | nil => intro c; rfl
  | cons e X ih => intro c; exact ih _
theorem bumps_bd (L : List En) : ∀ (c : List Int) (i : Nat), good L c = true → Bd c i → Bd (bumps L c) (i + L.length) := by
  induction L with
  | nil => intro c i _ h; simpa [bumps] using h
  | cons e L ih =>
    intro c i hg h
    obtain ⟨h1, _, h3⟩ := (good_cons _ _ _).1 hg
    obtain ⟨p0, p1⟩ := okE_pid h1
    have := ih _ _ h3 (h.bump p0 p1)
    exact this.up (by simp; omega)
theorem bumps_le (L : List En) : ∀ (c : List Int) (i : Nat), good L c = true → Bd c i → ∀ p, 0 ≤ p → p ≤ 2 → rd c p ≤ rd (bumps L c) p := by
  induction L with
  | nil => intro c i _ h p _ _; exact Int.le_refl _
  | cons e L ih =>
    intro c i hg h p q0 q1
    obtain ⟨h1, _, h3⟩ := (good_cons _ _ _).1 hg
    obtain ⟨p0, p1⟩ := okE_pid h1
    have h4 := ih _ _ h3 (h.bump p0 p1) p q0 q1
    refine Int.le_trans ?_ h4
    unfold bump
    by_cases hp : e.f0 = p
    · rw [hp, rd_set c p _ q0 (by have := h.1; omega)]; omega
    · rw [rd_set_ne c _ _ _ p0 q0 hp]; exact Int.le_refl _
/-- What the program's own counting tells, in one pass. -/
theorem many_ev (L : List En) (N : List Int) (E : List Er) (s : Int) (A : List Int) (hs0 : 0 ≤ s) (hs1 : s ≤ (L.length : Int)) (hL : L.length ≤ 1048576) : ∀ (d i : Nat) (c c5 : List Int), L.length - i = d → i ≤ L.length → Bd c i → Bd c5 i →
    (good (L.drop i) c = false → Ev (fun k => impl_KeeperOk.l1 k L N E s A c c5 (i : Int)) false) ∧
    (good (L.drop i) c = true → ∀ r, Ev (fun k => impl_KeeperOk.l2 k L N E s A (bumps (L.drop i) c) (bumps ((L.take s.toNat).drop i) c5) 0) r → Ev (fun k => impl_KeeperOk.l1 k L N E s A c c5 (i : Int)) r) := by
  intro d
  induction d with
  | zero =>
    intro i c c5 hd hi hB hB5
    have e0 : L.drop i = [] := List.drop_eq_nil_of_le (by omega)
    have e1 : (L.take s.toNat).drop i = [] := List.drop_eq_nil_of_le (by simp; omega)
    rw [e0, e1]
    refine ⟨fun h => absurd h (by simp [good]), fun _ r hr => Ev.step (fun _ => rfl) ?_⟩
    simp only [impl_KeeperOk.l1]; exact Ev.neg (by omega) hr
  | succ d ih =>
    intro i c c5 hd hi hB hB5
    have hx : L[i]? = some L[i] := List.getElem?_eq_getElem (by omega)
    have e0 : L.drop i = L[i] :: L.drop (i + 1) := List.drop_eq_getElem_cons (by omega)
    have e1 : (i : Int) < s → (L.take s.toNat).drop i = L[i] :: (L.take s.toNat).drop (i + 1) := by
      intro h
      rw [List.drop_eq_getElem_cons (by simp; omega), List.getElem_take]
    have e2 : ¬ (i : Int) < s → (L.take s.toNat).drop i = [] ∧ (L.take s.toNat).drop (i + 1) = [] := fun h => ⟨List.drop_eq_nil_of_le (by simp; omega), List.drop_eq_nil_of_le (by simp; omega)⟩
    rw [e0]
    generalize L[i] = e at hx e1
    have hi1 : wrap64 ((i : Int) + 1) = ((i + 1 : Nat) : Int) := by rw [w64 (by omega) (by omega)]; omega
    by_cases hp : 0 ≤ e.f0 ∧ e.f0 ≤ 2
    · have hr := hB.rd hp.1 hp.2
      have hr5 := hB5.rd hp.1 hp.2
      have l3 := hB.1
      have l5 := hB5.1
      cases ho : itemOk e.f2 with
      | true =>
        have hst : ∀ (u : Nat → Option Bool) r, (∀ k, u k = if (i : Int) < s then (if e.f0 < (c5.length : Int) then impl_KeeperOk.j0 k L N E s A c (i : Int) (bump c5 e.f0) else none) else impl_KeeperOk.j0 k L N E s A c (i : Int) c5) → Ev u r → Ev (fun k => impl_KeeperOk.l1 k L N E s A c c5 (i : Int)) r := by
          intro u r hu h
          refine Ev.step (fun _ => rfl) ?_
          simp only [impl_KeeperOk.l1]; rw [rd98 hx, w64 (x := rd c5 e.f0 + 1) (by omega) (by omega)]
          refine Ev.pos (by omega) (Ev.pos (by omega) (Ev.bindc (isPid_dec _) (Ev.pos (by simpa using hp) (Ev.bindc (impl_ItemOk_of e.f2) ?_))))
          rw [ho]
          exact Ev.pos rfl (Ev.pos hp.1 (Ev.pos (by omega) (Ev.pos (by omega) (Ev.congr (fun k => (hu k).symm) h))))
        by_cases hs : e.f1 = rd c e.f0 + 1
        · have hg : good (e :: L.drop (i + 1)) c = good (L.drop (i + 1)) (bump c e.f0) := by simp [good, okE, hp, hs, ho]
          rw [hg]
          have hj : ∀ c6 r, Ev (fun k => impl_KeeperOk.l1 k L N E s A (bump c e.f0) c6 ((i + 1 : Nat) : Int)) r → Ev (fun k => impl_KeeperOk.j0 k L N E s A c (i : Int) c6) r := by
            intro c6 r h
            refine Ev.step (fun _ => rfl) ?_
            simp only [impl_KeeperOk.j0]; rw [rd98 hx, w64 (x := rd c e.f0 + 1) (by omega) (by omega), hi1]
            exact Ev.pos (by first | omega | (simp; omega)) (Ev.pos (by rw [rd_set c _ _ hp.1 (by omega)]; exact hs) h)
          by_cases h6 : (i : Int) < s
          · obtain ⟨g1, g2⟩ := ih (i + 1) (bump c e.f0) (bump c5 e.f0) (by omega) (by omega) (hB.bump hp.1 hp.2) (hB5.bump hp.1 hp.2)
            have hk : ∀ r, Ev (fun k => impl_KeeperOk.l1 k L N E s A (bump c e.f0) (bump c5 e.f0) ((i + 1 : Nat) : Int)) r → Ev (fun k => impl_KeeperOk.l1 k L N E s A c c5 (i : Int)) r := fun r h => hst _ r (fun _ => rfl) (Ev.pos h6 (Ev.pos (by omega) (hj _ _ h)))
            refine ⟨fun h => hk _ (g1 h), fun h r hr => hk _ (g2 h r ?_)⟩
            rw [e1 h6] at hr
            exact hr
          · obtain ⟨g1, g2⟩ := ih (i + 1) (bump c e.f0) c5 (by omega) (by omega) (hB.bump hp.1 hp.2) (hB5.up (by omega))
            have hk : ∀ r, Ev (fun k => impl_KeeperOk.l1 k L N E s A (bump c e.f0) c5 ((i + 1 : Nat) : Int)) r → Ev (fun k => impl_KeeperOk.l1 k L N E s A c c5 (i : Int)) r := fun r h => hst _ r (fun _ => rfl) (Ev.neg h6 (hj _ _ h))
            refine ⟨fun h => hk _ (g1 h), fun h r hr => hk _ (g2 h r ?_)⟩
            rw [(e2 h6).1] at hr
            rw [(e2 h6).2]
            exact hr
        · have hg : good (e :: L.drop (i + 1)) c = false := by simp [good, hs]
          rw [hg]
          have hj : ∀ c6, Ev (fun k => impl_KeeperOk.j0 k L N E s A c (i : Int) c6) false := by
            intro c6
            refine Ev.step (fun _ => rfl) ?_
            simp only [impl_KeeperOk.j0]; rw [rd98 hx, w64 (x := rd c e.f0 + 1) (by omega) (by omega)]
            exact Ev.pos (by first | omega | (simp; omega)) (Ev.neg (by rw [rd_set c _ _ hp.1 (by omega)]; exact hs) (Ev.now _))
          exact ⟨fun _ => hst _ _ (fun _ => rfl) (Ev.both (fun _ => Ev.pos (by omega) (hj _)) (fun _ => hj _)), fun h => by cases h⟩
      | false =>
        have hg : good (e :: L.drop (i + 1)) c = false := by simp [good, okE, ho]
        rw [hg]
        refine ⟨fun _ => Ev.step (fun _ => rfl) ?_, fun h => by cases h⟩
        simp only [impl_KeeperOk.l1]; rw [rd98 hx]
        refine Ev.pos (by omega) (Ev.pos (by omega) (Ev.bindc (isPid_dec _) (Ev.pos (by simpa using hp) (Ev.bindc (impl_ItemOk_of e.f2) ?_))))
        rw [ho]
        exact Ev.neg (by simp) (Ev.now _)
    · have hg : good (e :: L.drop (i + 1)) c = false := by simp [good, okE, hp]
      rw [hg]
      refine ⟨fun _ => Ev.step (fun _ => rfl) ?_, fun h => by cases h⟩
      simp only [impl_KeeperOk.l1]; rw [rd98 hx]
      exact Ev.pos (by omega) (Ev.pos (by omega) (Ev.bindc (isPid_dec _) (Ev.neg (by simpa using hp) (Ev.now _))))
def Q3 (N A m sv : List Int) (i : Nat) : Prop := ∀ j : Nat, i ≤ j → j < 3 → rd N (j : Int) = rd m (j : Int) + 1 ∧ rd A (j : Int) = rd sv (j : Int) + 1
def W3 (N A : List Int) (i : Nat) : Prop := ∀ j : Nat, i ≤ j → j < 3 → (1 ≤ rd N (j : Int) ∧ rd N (j : Int) ≤ 1000000000) ∧ 1 ≤ rd A (j : Int) ∧ rd A (j : Int) ≤ rd N (j : Int)
section
variable (L : List En) (N : List Int) (E : List Er) (s : Int) (A : List Int)
theorem wrapm {n m : Int} (hn : -9223372036854775808 ≤ n ∧ n ≤ 9223372036854775807) (hm : 0 ≤ m ∧ m ≤ 1048576) : m = wrap64 (n - 1) ↔ n = m + 1 := by
  unfold wrap64; omega
theorem implCmp_ev (m sv : List Int) (hN : N.length = 3) (hA : A.length = 3) (bm : Bd m 1048576) (bs : Bd sv 1048576) (bN : ∀ v ∈ N, -9223372036854775808 ≤ v ∧ v ≤ 9223372036854775807) (bA : ∀ v ∈ A, -9223372036854775808 ≤ v ∧ v ≤ 9223372036854775807) : ∀ (d i : Nat), 3 - i = d → i ≤ 3 →
    (Q3 N A m sv i → ∀ r, Ev (fun k => impl_KeeperOk.l3 k L N E s A 0) r → Ev (fun k => impl_KeeperOk.l2 k L N E s A m sv (i : Int)) r) ∧ (¬ Q3 N A m sv i → Ev (fun k => impl_KeeperOk.l2 k L N E s A m sv (i : Int)) false) := by
  intro d
  induction d with
  | zero =>
    intro i hd hi
    refine ⟨fun _ r hr => Ev.step (fun _ => rfl) ?_, fun h => (h fun j h1 h2 => by omega).elim⟩
    simp only [impl_KeeperOk.l2]; exact Ev.neg (by omega) hr
  | succ d ih =>
    intro i hd hi
    obtain ⟨g1, g2⟩ := ih (i + 1) (by omega) (by omega)
    have b1 := bm.rd (p := (i : Int)) (by omega) (by omega)
    have b2 := bs.rd (p := (i : Int)) (by omega) (by omega)
    have l1 := bm.1
    have l2 := bs.1
    have v1 := bN _ (rd_mem N (i : Int) (by omega) (by omega))
    have v2 := bA _ (rd_mem A (i : Int) (by omega) (by omega))
    have hq : Q3 N A m sv i ↔ (rd N (i : Int) = rd m (i : Int) + 1 ∧ rd A (i : Int) = rd sv (i : Int) + 1) ∧ Q3 N A m sv (i + 1) := by
      refine ⟨fun h => ⟨h i (Nat.le_refl _) (by omega), fun j h1 h2 => h j (by omega) h2⟩, fun h j h1 h2 => ?_⟩
      rcases Nat.eq_or_lt_of_le h1 with rfl | h3
      · exact h.1
      · exact h.2 j h3 h2
    have hst : ∀ r, (rd N (i : Int) = rd m (i : Int) + 1 ∧ rd A (i : Int) = rd sv (i : Int) + 1) → Ev (fun k => impl_KeeperOk.l2 k L N E s A m sv ((i + 1 : Nat) : Int)) r → Ev (fun k => impl_KeeperOk.l2 k L N E s A m sv (i : Int)) r := by
      intro r h hr
      refine Ev.step (fun _ => rfl) ?_
      simp only [impl_KeeperOk.l2]; rw [w64 (x := (i : Int) + 1) (by omega) (by omega), show (i : Int) + 1 = ((i + 1 : Nat) : Int) by omega]
      exact Ev.pos (by omega) (Ev.pos (by omega) (Ev.pos (by omega) (Ev.pos (by omega) (Ev.pos ((wrapm v1 b1).2 h.1) (Ev.pos (by omega) (Ev.pos (by omega) (Ev.pos ((wrapm v2 b2).2 h.2) hr)))))))
    have hsf : ¬ (rd N (i : Int) = rd m (i : Int) + 1 ∧ rd A (i : Int) = rd sv (i : Int) + 1) → Ev (fun k => impl_KeeperOk.l2 k L N E s A m sv (i : Int)) false := by
      intro h
      refine Ev.step (fun _ => rfl) ?_
      simp only [impl_KeeperOk.l2]
      exact Ev.pos (by omega) (Ev.pos (by omega) (Ev.pos (by omega) (Ev.pos (by omega) (Ev.both (fun h1 => Ev.pos (by omega) (Ev.pos (by omega) (Ev.neg (fun h2 => h ⟨(wrapm v1 b1).1 h1, (wrapm v2 b2).1 h2⟩) (Ev.now _)))) (fun _ => Ev.now _)))))
    refine ⟨fun h r hr => hst r (hq.1 h).1 (g1 (hq.1 h).2 r hr), fun h => ?_⟩
    by_cases h1 : rd N (i : Int) = rd m (i : Int) + 1 ∧ rd A (i : Int) = rd sv (i : Int) + 1
    · exact hst _ h1 (g2 fun h2 => h (hq.2 ⟨h1, h2⟩))
    · exact hsf h1
theorem implIn_ev (hN : N.length = 3) (hA : A.length = 3) : ∀ (d i : Nat), 3 - i = d → i ≤ 3 →
    (W3 N A i → ∀ r, Ev (fun k => impl_KeeperOk.l1 k L N E s A (List.replicate 3 0) (List.replicate 3 0) 0) r → Ev (fun k => impl_KeeperOk.l0 k L N E s A (i : Int)) r) ∧ (¬ W3 N A i → Ev (fun k => impl_KeeperOk.l0 k L N E s A (i : Int)) false) := by
  intro d
  induction d with
  | zero =>
    intro i hd hi
    refine ⟨fun _ r hr => Ev.step (fun _ => rfl) ?_, fun h => (h fun j h1 h2 => by omega).elim⟩
    simp only [impl_KeeperOk.l0]; exact Ev.neg (by omega) hr
  | succ d ih =>
    intro i hd hi
    obtain ⟨g1, g2⟩ := ih (i + 1) (by omega) (by omega)
    have hq : W3 N A i ↔ ((1 ≤ rd N (i : Int) ∧ rd N (i : Int) ≤ 1000000000) ∧ 1 ≤ rd A (i : Int) ∧ rd A (i : Int) ≤ rd N (i : Int)) ∧ W3 N A (i + 1) := by
      refine ⟨fun h => ⟨h i (Nat.le_refl _) (by omega), fun j h1 h2 => h j (by omega) h2⟩, fun h j h1 h2 => ?_⟩
      rcases Nat.eq_or_lt_of_le h1 with rfl | h3
      · exact h.1
      · exact h.2 j h3 h2
    have hst : ∀ r, ((1 ≤ rd N (i : Int) ∧ rd N (i : Int) ≤ 1000000000) ∧ 1 ≤ rd A (i : Int) ∧ rd A (i : Int) ≤ rd N (i : Int)) → Ev (fun k => impl_KeeperOk.l0 k L N E s A ((i + 1 : Nat) : Int)) r → Ev (fun k => impl_KeeperOk.l0 k L N E s A (i : Int)) r := by
      intro r h hr
      refine Ev.step (fun _ => rfl) ?_
      simp only [impl_KeeperOk.l0]; rw [w64 (x := (i : Int) + 1) (by omega) (by omega), show (i : Int) + 1 = ((i + 1 : Nat) : Int) by omega]
      exact Ev.pos (by omega) (Ev.pos (by omega) (Ev.pos (by omega) (Ev.bindc (within_of _ _ _) (Ev.pos (by simpa using h.1) (Ev.pos (by omega) (Ev.bindc (within_of _ _ _) (Ev.pos (by simpa using h.2) hr)))))))
    have hsf : ¬ ((1 ≤ rd N (i : Int) ∧ rd N (i : Int) ≤ 1000000000) ∧ 1 ≤ rd A (i : Int) ∧ rd A (i : Int) ≤ rd N (i : Int)) → Ev (fun k => impl_KeeperOk.l0 k L N E s A (i : Int)) false := by
      intro h
      refine Ev.step (fun _ => rfl) ?_
      simp only [impl_KeeperOk.l0]
      refine Ev.pos (by omega) (Ev.pos (by omega) (Ev.pos (by omega) (Ev.bindc (within_of _ _ _) (Ev.both (fun h1 => Ev.pos (by omega) (Ev.bindc (within_of _ _ _) (Ev.neg (fun h2 => h ⟨of_decide_eq_true h1, of_decide_eq_true h2⟩) (Ev.now _)))) (fun _ => Ev.now _)))))
    refine ⟨fun h r hr => hst r (hq.1 h).1 (g1 (hq.1 h).2 r hr), fun h => ?_⟩
    by_cases h1 : (1 ≤ rd N (i : Int) ∧ rd N (i : Int) ≤ 1000000000) ∧ 1 ≤ rd A (i : Int) ∧ rd A (i : Int) ≤ rd N (i : Int)
    · exact hst _ h1 (g2 fun h2 => h (hq.2 ⟨h1, h2⟩))
    · exact hsf h1
end
def entOn (pid : Int) (s : List S34) (x : S98) : Except (List S34) (List S34) := .ok (if x.f0 = pid then s ++ [x.f2] else s)
def entriesV (pid : Int) (l : List S98) : List S34 := foldE (entOn pid) id l []
theorem ent_length (pid : Int) : ∀ (l : List S98) (s : List S34), (foldE (entOn pid) id l s).length ≤ s.length + l.length
  | [], s => by simp [foldE]
  | x :: r, s => by
    rw [foldE_on r (show entOn pid s x = .ok _ from rfl)]
    have := ent_length pid r (if x.f0 = pid then s ++ [x.f2] else s)
    have h2 : (if x.f0 = pid then s ++ [x.f2] else s).length ≤ s.length + 1 := by split <;> simp
    simp only [List.length_cons]; omega
theorem spec_EntriesOf_ev (l : List S98) (l1 : List Int) (l2 : List S97) (a : Int) (l4 : List Int) (pid : Int) (hn : l.length ≤ 1048576) : Ev (fun k => spec_EntriesOf.f k l l1 l2 a l4 pid) (entriesV pid l) := by
  unfold spec_EntriesOf.f entriesV
  have := foldE_ev (fun k s i => spec_EntriesOf.l0 k l l1 l2 a l4 pid s i) l (entOn pid) id (fun i s => s.length ≤ i) ?_ ?_ ?_ l.length 0 [] rfl (Nat.zero_le _) (by simp)
  · simpa using this
  · intro s hs
    refine Ev.step (f := fun _ => some s) (fun k => ?_) (Ev.now _)
    simp only [spec_EntriesOf.l0]; rw [if_neg (by omega)]
  · intro i x s e hx hs he; cases he
  · intro i x s s' hx hs he
    have hi := lt_of hx
    obtain rfl : (if x.f0 = pid then s ++ [x.f2] else s) = s' := by injection he
    refine ⟨by split <;> (try simp) <;> omega, fun r h => ?_⟩
    refine Ev.step (fun k => ?_) h
    simp only [spec_EntriesOf.l0]
    rw [if_pos (by omega), if_pos (by omega), rd98 hx, w64 (by omega) (by omega)]
    by_cases hp : x.f0 = pid
    · rw [if_pos hp, if_pos hp, if_pos (by simp only [List.length_cons, List.length_nil]; omega)]
    · rw [if_neg hp, if_neg hp]
theorem impl_EntriesOf_ev (l : List S98) (l1 : List Int) (l2 : List S97) (a : Int) (l4 : List Int) (pid : Int) (hn : l.length ≤ 1048576) : Ev (fun k => impl_EntriesOf.f k l l1 l2 a l4 pid) (entriesV pid l) := by
  unfold impl_EntriesOf.f entriesV
  have := foldE_ev (fun k s i => impl_EntriesOf.l0 k l pid s i) l (entOn pid) id (fun i s => s.length ≤ i) ?_ ?_ ?_ l.length 0 [] rfl (Nat.zero_le _) (by simp)
  · simpa using this
  · intro s hs
    refine Ev.step (f := fun _ => some s) (fun k => ?_) (Ev.now _)
    simp only [impl_EntriesOf.l0]; rw [if_neg (by omega)]
  · intro i x s e hx hs he; cases he
  · intro i x s s' hx hs he
    have hi := lt_of hx
    obtain rfl : (if x.f0 = pid then s ++ [x.f2] else s) = s' := by injection he
    refine ⟨by split <;> (try simp) <;> omega, fun r h => ?_⟩
    refine Ev.step (fun k => ?_) h
    simp only [impl_EntriesOf.l0]
    rw [if_pos (by omega), if_pos (by omega), rd98 hx, w64 (by omega) (by omega)]
    by_cases hp : x.f0 = pid
    · rw [if_pos hp, if_pos hp, if_pos (by simp only [List.length_cons, List.length_nil]; omega)]
    · rw [if_neg hp, if_neg hp]
/-- Ends with enough rounds, and what comes out is so. -/
def Tot {α : Type} (g : Nat → Option α) (P : α → Prop) : Prop := ∃ r, Ev g r ∧ P r
section
variable {α β : Type} {P Q : α → Prop} {R : β → Prop}
theorem Tot.now {r : α} (h : P r) : Tot (fun _ => some r) P := ⟨r, Ev.now r, h⟩
theorem Tot.bind {g : Nat → Option α} {f : Nat → α → Option β} (h : Tot g P) (k : ∀ a, P a → Tot (fun n => f n a) R) : Tot (fun n => (g n).bind (f n)) R := by
  obtain ⟨a, ha, hp⟩ := h
  obtain ⟨r, hr, h⟩ := k a hp
  exact ⟨r, Ev.bind ha hr, h⟩
theorem Tot.bindc {a : Option α} {f : Nat → α → Option β} (h : ∃ x, a = some x ∧ P x) (k : ∀ x, P x → Tot (fun n => f n x) R) : Tot (fun n => a.bind (f n)) R := by
  obtain ⟨a, ha, hp⟩ := h
  obtain ⟨r, hr, h⟩ := k a hp
  exact ⟨r, Ev.bindc ha hr, h⟩
theorem Tot.bind1 {g : Nat → Option α} {f : Nat → α → Option β} {a : α} (h : Ev g a) (k : Tot (fun n => f n a) R) : Tot (fun n => (g n).bind (f n)) R := by
  obtain ⟨r, hr, k⟩ := k
  exact ⟨r, Ev.bind h hr, k⟩
theorem Tot.bindc1 {a : Option α} {f : Nat → α → Option β} {x : α} (h : a = some x) (k : Tot (fun n => f n x) R) : Tot (fun n => a.bind (f n)) R := by
  obtain ⟨r, hr, k⟩ := k
  exact ⟨r, Ev.bindc h hr, k⟩
theorem Tot.pos {c : Prop} [Decidable c] {f g : Nat → Option α} (h : c) (k : Tot f P) : Tot (fun n => if c then f n else g n) P := by
  obtain ⟨r, hr, k⟩ := k
  exact ⟨r, Ev.pos h hr, k⟩
theorem Tot.neg {c : Prop} [Decidable c] {f g : Nat → Option α} (h : ¬ c) (k : Tot g P) : Tot (fun n => if c then f n else g n) P := by
  obtain ⟨r, hr, k⟩ := k
  exact ⟨r, Ev.neg h hr, k⟩
theorem Tot.grd {c : Prop} [Decidable c] {f : Nat → Option α} (h : c) (k : Tot f P) : Tot (fun n => if c then f n else none) P := Tot.pos h k
theorem Tot.both {c : Prop} [Decidable c] {f g : Nat → Option α} (h : c → Tot f P) (k : ¬ c → Tot g P) : Tot (fun n => if c then f n else g n) P := by
  by_cases hc : c
  · exact Tot.pos hc (h hc)
  · exact Tot.neg hc (k hc)
theorem Tot.step {g f : Nat → Option α} (h : ∀ k, g (k + 1) = f k) (k : Tot f P) : Tot g P := by
  obtain ⟨r, hr, k⟩ := k
  exact ⟨r, Ev.step h hr, k⟩
theorem Tot.mono {g : Nat → Option α} (h : Tot g P) (k : ∀ r, P r → Q r) : Tot g Q := by
  obtain ⟨r, hr, h⟩ := h
  exact ⟨r, hr, k r h⟩
theorem Tot.one {g : Nat → Option α} {r : α} (h : Ev g r) (k : P r) : Tot g P := ⟨r, h, k⟩
/-- A loop of at most m rounds that keeps Inv. -/
theorem Tot.up {σ : Type} (L : Nat → σ → Int → Option α) (m : Nat) (Inv : Nat → σ → Prop)
    (step : ∀ (j : Nat) s, j ≤ m → Inv j s → (∀ s', j < m → Inv (j + 1) s' → Tot (fun k => L k s' ((j : Int) + 1)) P) → Tot (fun k => L k s (j : Int)) P) :
    ∀ s, Inv 0 s → Tot (fun k => L k s 0) P := by
  have key : ∀ (d j : Nat) s, m - j = d → j ≤ m → Inv j s → Tot (fun k => L k s (j : Int)) P := by
    intro d
    induction d with
    | zero => intro j s hd hj hi; exact step j s hj hi (fun s' h _ => by omega)
    | succ d ih => intro j s hd hj hi; exact step j s hj hi (fun s' h hi' => by have := ih (j + 1) s' (by omega) (by omega) hi'; simpa using this)
  intro s hs
  exact key _ 0 s rfl (Nat.zero_le _) hs
end
theorem and255 (x : Int) : 0 ≤ bits .and .i64 x 255 ∧ bits .and .i64 x 255 ≤ 255 := by
  have h : bits .and .i64 x 255 = (((BitVec.ofInt 64 x).toNat &&& 255 : Nat) : Int) := by
    show IntKind.i64.wrap (((BitVec.ofInt 64 x) &&& (BitVec.ofInt 64 255)).toNat : Int) = _
    rw [BitVec.toNat_and]
    have : (BitVec.ofInt 64 255).toNat = 255 := by decide
    rw [this, IntKind.wrap_i64]
    have h2 : (BitVec.ofInt 64 x).toNat &&& 255 ≤ 255 := Nat.and_le_right
    omega
  rw [h]
  have h2 : (BitVec.ofInt 64 x).toNat &&& 255 ≤ 255 := Nat.and_le_right
  omega
/-- A reader's place. -/
def Rd (b : List Int) (i : Int) : Prop := b.length ≤ 1048576 ∧ 0 ≤ i ∧ i ≤ (b.length : Int)
theorem l01New_ev (b : List Int) (hb : b.length ≤ 1048576) : ∃ s, Ev (fun k => spec_l01New.f k b) (b, 0, s) := by
  have key : ∀ (d i : Nat) (s : Int), b.length - i = d → i ≤ b.length → ∃ s', Ev (fun k => spec_l01New.l0 k b s (i : Int)) (b, 0, s') := by
    intro d
    induction d with
    | zero =>
      intro i s hd hi
      refine ⟨s, Ev.step (fun _ => rfl) ?_⟩
      simp only [spec_l01New.l0]; exact Ev.neg (by omega) (Ev.now _)
    | succ d ih =>
      intro i s hd hi
      by_cases h : (i : Int) < 4000
      · obtain ⟨s', h'⟩ := ih (i + 1) (bits .and .i64 (wrap64 ((wrap64 ((wrap64 (s * 131)) + (wrap64 (rd b i)))) + 7)) 1073741823) (by omega) (by omega)
        refine ⟨s', Ev.step (fun _ => rfl) ?_⟩
        simp only [spec_l01New.l0]; rw [w64 (x := (i : Int) + 1) (by omega) (by omega)]
        exact Ev.pos (by omega) (Ev.pos h (Ev.pos (by omega) h'))
      · refine ⟨s, Ev.step (fun _ => rfl) ?_⟩
        simp only [spec_l01New.l0]; exact Ev.pos (by omega) (Ev.neg h (Ev.now _))
  exact key b.length 0 _ rfl (Nat.zero_le _)
theorem l01Byte_of (b : List Int) (i s : Int) (h : Rd b i) : ∃ v i' s', spec_l01Byte.f b i s = some (v, b, i', s') ∧ Rd b i' ∧ 0 ≤ v ∧ v ≤ 255 := by
  unfold spec_l01Byte.f
  by_cases hi : i < (b.length : Int)
  · rw [if_pos hi, if_pos h.2.1]
    exact ⟨_, _, _, rfl, ⟨h.1, by rw [w64 (by have := h.1; have := h.2.1; omega) (by have := h.1; omega)]; have := h.2.1; omega, by rw [w64 (by have := h.1; have := h.2.1; omega) (by have := h.1; omega)]; omega⟩, and255 _⟩
  · rw [if_neg hi]
    exact ⟨_, _, _, rfl, h, and255 _⟩
theorem tmod_of {v n : Int} (h : 0 ≤ v) (hn : 0 < n) : 0 ≤ v.tmod n ∧ v.tmod n < n := ⟨Int.tmod_nonneg _ h, Int.tmod_lt_of_pos _ hn⟩
theorem l01Below_of (b : List Int) (i s n : Int) (h : Rd b i) (hn : 0 < n) : ∃ v i' s', spec_l01Below.f b i s n = some (v, b, i', s') ∧ Rd b i' ∧ 0 ≤ v ∧ v < n := by
  unfold spec_l01Below.f
  rw [if_neg (by omega)]
  obtain ⟨v1, i1, s1, e1, h1, b1⟩ := l01Byte_of b i s h
  obtain ⟨v2, i2, s2, e2, h2, b2⟩ := l01Byte_of b i1 s1 h1
  obtain ⟨v3, i3, s3, e3, h3, b3⟩ := l01Byte_of b i2 s2 h2
  obtain ⟨v4, i4, s4, e4, h4, b4⟩ := l01Byte_of b i3 s3 h3
  by_cases hn2 : n ≤ 256
  · rw [if_pos hn2, e1]
    simp only [Option.bind_some]
    rw [if_pos (by omega)]
    exact ⟨_, _, _, rfl, h1, tmod_of b1.1 hn⟩
  · rw [if_neg hn2, e1]
    simp only [Option.bind_some, e2, e3, e4]
    rw [if_pos (by omega)]
    refine ⟨_, _, _, rfl, h4, tmod_of ?_ hn⟩
    rw [w64 (x := v1 * 16777216) (by omega) (by omega), w64 (x := v2 * 65536) (by omega) (by omega), w64 (x := v1 * 16777216 + v2 * 65536) (by omega) (by omega), w64 (x := v3 * 256) (by omega) (by omega), w64 (x := v1 * 16777216 + v2 * 65536 + v3 * 256) (by omega) (by omega), w64 (by omega) (by omega)]
    omega
theorem l01PickInt_of (b : List Int) (i s : Int) (l : List Int) (h : Rd b i) (hl : 0 < l.length) : ∃ v i' s', spec_l01PickInt.f b i s l = some (v, b, i', s') ∧ Rd b i' ∧ v ∈ l := by
  obtain ⟨v, i', s', e, h', h0, h1⟩ := l01Below_of b i s l.length h (by omega)
  unfold spec_l01PickInt.f
  rw [e]
  simp only [Option.bind_some]
  rw [if_pos h0, if_pos h1]
  refine ⟨_, _, _, rfl, h', ?_⟩
  have hv : v.toNat < l.length := by omega
  unfold rd
  rw [List.getD_eq_getElem?_getD, List.getElem?_eq_getElem hv]
  exact List.getElem_mem hv
theorem l01Once_of (b : List Int) (i s n : Int) (h : Rd b i) (hn : 0 < n) : ∃ (v : Bool) (i' s' : Int), spec_l01Once.f b i s n = some (v, b, i', s') ∧ Rd b i' := by
  obtain ⟨v, i', s', e, h', h0, h1⟩ := l01Below_of b i s n h hn
  exact ⟨_, _, _, by unfold spec_l01Once.f; rw [e]; rfl, h'⟩
section
variable {α : Type} {P : α → Prop} {b : List Int} {i s n : Int}
theorem Tot.below {f : Nat → (Int × List Int × Int × Int) → Option α} (h : Rd b i) (hn : 0 < n) (k : ∀ v i' s', Rd b i' → 0 ≤ v → v < n → Tot (fun m => f m (v, b, i', s')) P) : Tot (fun m => (spec_l01Below.f b i s n).bind (f m)) P := by
  obtain ⟨v, i', s', e, h', h0, h1⟩ := l01Below_of b i s n h hn
  exact Tot.bindc1 e (k v i' s' h' h0 h1)
theorem Tot.once {f : Nat → (Bool × List Int × Int × Int) → Option α} (h : Rd b i) (hn : 0 < n) (k : ∀ v i' s', Rd b i' → Tot (fun m => f m (v, b, i', s')) P) : Tot (fun m => (spec_l01Once.f b i s n).bind (f m)) P := by
  obtain ⟨v, i', s', e, h'⟩ := l01Once_of b i s n h hn
  exact Tot.bindc1 e (k v i' s' h')
theorem Tot.pick {l : List Int} {f : Nat → (Int × List Int × Int × Int) → Option α} (h : Rd b i) (hl : 0 < l.length) (k : ∀ v i' s', Rd b i' → v ∈ l → Tot (fun m => f m (v, b, i', s')) P) : Tot (fun m => (spec_l01PickInt.f b i s l).bind (f m)) P := by
  obtain ⟨v, i', s', e, h', h0⟩ := l01PickInt_of b i s l h hl
  exact Tot.bindc1 e (k v i' s' h' h0)
end
theorem l04Half_of (b : List Int) (i s : Int) (h : Rd b i) : ∃ (v : Int) (i' s' : Int), spec_l04Half.f b i s = some (v, b, i', s') ∧ Rd b i' ∧ 0 ≤ v ∧ v ≤ 4294967295 := by
  obtain ⟨v, i1, s1, e1, h1, b1, b2⟩ := l01Below_of b i s 12 h (by omega)
  obtain ⟨w, i2, s2, e2, h2, m2⟩ := l01PickInt_of b i1 s1 [0, 1, 2, 3, 5, 7, 255, 4294967295, 2147483648, v] h1 (by simp)
  refine ⟨w, i2, s2, ?_, h2, ?_⟩
  · unfold spec_l04Half.f
    rw [e1]
    simp only [Option.bind_some]
    rw [e2]; rfl
  · simp only [List.mem_cons, List.not_mem_nil, or_false] at m2
    omega
theorem l17Item_of (b : List Int) (i s : Int) (h : Rd b i) : ∃ (x0 x1 x2 x3 i' s' : Int), spec_l17Item.f b i s = some (x0, x1, x2, x3, b, i', s') ∧ Rd b i' ∧ ((x0 = 2 ∧ x1 = 0 ∧ x2 = 0 ∧ 1 ≤ x3 ∧ x3 ≤ 5) ∨ (x0 = 1 ∧ (0 ≤ x1 ∧ x1 ≤ 8) ∧ (0 ≤ x2 ∧ x2 ≤ 4294967295) ∧ x3 = 0)) := by
  obtain ⟨v, i1, s1, e1, h1⟩ := l01Once_of b i s 3 h (by omega)
  unfold spec_l17Item.f
  rw [e1]
  simp only [Option.bind_some]
  cases v with
  | true =>
    obtain ⟨w, i2, s2, e2, h2, b2, b3⟩ := l01Below_of b i1 s1 5 h1 (by omega)
    rw [if_pos rfl, e2]
    exact ⟨_, _, _, _, _, _, rfl, h2, .inl ⟨rfl, rfl, rfl, by rw [w64 (by omega) (by omega)]; omega, by rw [w64 (by omega) (by omega)]; omega⟩⟩
  | false =>
    obtain ⟨w, i2, s2, e2, h2, b2, b3⟩ := l01Below_of b i1 s1 9 h1 (by omega)
    obtain ⟨u, i3, s3, e3, h3, b4, b5⟩ := l04Half_of b i2 s2 h2
    rw [if_neg (by simp), e2]
    simp only [Option.bind_some]
    rw [e3]
    exact ⟨_, _, _, _, _, _, rfl, h3, .inr ⟨rfl, by omega, by omega, rfl⟩⟩
section
variable {α : Type} {P : α → Prop} {b : List Int} {i s : Int}
theorem Tot.half {f : Nat → (Int × List Int × Int × Int) → Option α} (h : Rd b i) (k : ∀ v i' s', Rd b i' → 0 ≤ v → v ≤ 4294967295 → Tot (fun m => f m (v, b, i', s')) P) : Tot (fun m => (spec_l04Half.f b i s).bind (f m)) P := by
  obtain ⟨v, i', s', e, h', h0, h1⟩ := l04Half_of b i s h
  exact Tot.bindc1 e (k v i' s' h' h0 h1)
theorem Tot.item {f : Nat → (Int × Int × Int × Int × List Int × Int × Int) → Option α} (h : Rd b i) (k : ∀ x0 x1 x2 x3 i' s', Rd b i' → ((x0 = 2 ∧ x1 = 0 ∧ x2 = 0 ∧ 1 ≤ x3 ∧ x3 ≤ 5) ∨ (x0 = 1 ∧ (0 ≤ x1 ∧ x1 ≤ 8) ∧ (0 ≤ x2 ∧ x2 ≤ 4294967295) ∧ x3 = 0)) → Tot (fun m => f m (x0, x1, x2, x3, b, i', s')) P) : Tot (fun m => (spec_l17Item.f b i s).bind (f m)) P := by
  obtain ⟨x0, x1, x2, x3, i', s', e, h', h0⟩ := l17Item_of b i s h
  exact Tot.bindc1 e (k x0 x1 x2 x3 i' s' h' h0)
end
abbrev KV := List S98 × List Int × List S97 × Int × List Int
theorem spec_SaveKeeper_of (L : List S98) (N : List Int) (E : List S97) (a : Int) (A : List Int) (h0 : L.length ≤ 1048576) (h1 : N.length ≤ 1048576) (h2 : E.length ≤ 1048576) (h4 : A.length ≤ 1048576) : spec_SaveKeeper.f L N E a A = some (L, N, E, (L.length : Int), N) := by
  unfold spec_SaveKeeper.f
  rw [spec_l20Copy_of L N E a A h0 h1 h2 h4]
  simp only [Option.bind_some, List.length_nil, List.nil_append]
  rw [if_pos (by omega)]
theorem impl_SaveKeeper_of (L : List S98) (N : List Int) (E : List S97) (a : Int) (A : List Int) (h0 : L.length ≤ 1048576) (h1 : N.length ≤ 1048576) (h2 : E.length ≤ 1048576) (h4 : A.length ≤ 1048576) : impl_SaveKeeper.f L N E a A = some (L, N, E, (L.length : Int), N) := by
  unfold impl_SaveKeeper.f
  rw [impl_copyKeeper_of L N E a A h0 h1 h2 h4]
  simp only [Option.bind_some]
  rw [impl_copyInts_of N h1]; rfl
def fallV (L : List S98) (N : List Int) (E : List S97) (a : Int) (A : List Int) : KV := (if 0 ≤ a ∧ a ≤ (L.length : Int) then L.take a.toNat else L, A, [], a, A)
theorem spec_FallKeeper_ev (L : List S98) (N : List Int) (E : List S97) (a : Int) (A : List Int) (h0 : L.length ≤ 1048576) (h1 : N.length ≤ 1048576) (h2 : E.length ≤ 1048576) (h4 : A.length ≤ 1048576) : Ev (fun k => spec_FallKeeper.f k L N E a A) (fallV L N E a A) := by
  have hj : ∀ X, Ev (fun k => spec_FallKeeper.j0 k L N E a A (L, N, E, a, A) X) (X, A, [], a, A) := fun X => Ev.step (fun _ => rfl) (by simp only [spec_FallKeeper.j0, List.nil_append, List.length_nil]; exact Ev.pos (by omega) (Ev.now _))
  unfold spec_FallKeeper.f fallV
  refine Ev.bindc (spec_l20Copy_of L N E a A h0 h1 h2 h4) (Ev.bindc (spec_l01In_of _ _ _) ?_)
  by_cases h : 0 ≤ a ∧ a ≤ (L.length : Int)
  · rw [if_pos h]
    refine Ev.pos (by simpa using h) (Ev.pos h.1 (Ev.pos h.2 (Ev.pos (by simp; omega) ?_)))
    simp only [List.nil_append]
    exact hj _
  · rw [if_neg h]
    exact Ev.neg (by simpa using h) (hj _)
theorem impl_FallKeeper_ev (L : List S98) (N : List Int) (E : List S97) (a : Int) (A : List Int) (h0 : L.length ≤ 1048576) (h1 : N.length ≤ 1048576) (h2 : E.length ≤ 1048576) (h4 : A.length ≤ 1048576) : Ev (fun k => impl_FallKeeper.f k L N E a A) (fallV L N E a A) := by
  have hj : ∀ X, Ev (fun k => impl_FallKeeper.j0 k (L, N, E, a, A) X) (X, A, [], a, A) := fun X => Ev.step (fun _ => rfl) (by simp only [impl_FallKeeper.j0]; exact Ev.bindc (impl_copyInts_of A h4) (Ev.now _))
  unfold impl_FallKeeper.f fallV
  refine Ev.bindc (impl_copyKeeper_of L N E a A h0 h1 h2 h4) (Ev.bindc (spec_l01In_of _ _ _) ?_)
  by_cases h : 0 ≤ a ∧ a ≤ (L.length : Int)
  · rw [if_pos h]
    exact Ev.pos (by simpa using h) (Ev.pos h.1 (Ev.pos h.2 (hj _)))
  · rw [if_neg h]
    exact Ev.neg (by simpa using h) (hj _)
theorem spec_KeeperNew_ev : Ev (fun k => spec_KeeperNew.f k) ([1, 1, 1], 0, [1, 1, 1]) := by
  unfold spec_KeeperNew.f
  refine Ev.step (fun _ => rfl) ?_
  simp only [spec_KeeperNew.l0]
  refine Ev.pos (by omega) (Ev.pos (by simp) (Ev.pos (by simp) ?_))
  refine Ev.step (fun _ => rfl) ?_
  simp only [spec_KeeperNew.l0]
  refine Ev.pos (by decide +kernel) (Ev.pos (by simp) (Ev.pos (by simp) ?_))
  refine Ev.step (fun _ => rfl) ?_
  simp only [spec_KeeperNew.l0]
  refine Ev.pos (by decide +kernel) (Ev.pos (by simp) (Ev.pos (by simp) ?_))
  refine Ev.step (fun _ => rfl) ?_
  simp only [spec_KeeperNew.l0]
  exact Ev.neg (by decide +kernel) (Ev.now _)
/-- What a drawn keeper is, right or not. -/
def KI (e : Nat) (r : KV) : Prop := r.2.1.length = 3 ∧ r.2.2.2.2.length ≤ 3 ∧ I64s r.2.1 ∧ I64s r.2.2.2.2 ∧ r.1.length ≤ 201 ∧ r.2.2.1.length ≤ e
theorem I64s.drop {l : List Int} (h : I64s l) (n : Nat) : I64s (l.drop n) := fun v hv => h v (List.mem_of_mem_drop hv)
theorem fallV_KI {e e' : Nat} (L : List S98) (N : List Int) (E : List S97) (a : Int) (A : List Int) (h : KI e (L, N, E, a, A)) (hA : A.length = 3) : KI e' (fallV L N E a A) := by
  obtain ⟨h1, h2, h3, h4, h5, h6⟩ := h
  refine ⟨hA, h2, h4, h4, ?_, Nat.zero_le _⟩
  show (if 0 ≤ a ∧ a ≤ (L.length : Int) then L.take a.toNat else L).length ≤ 201
  replace h5 : L.length ≤ 201 := h5
  split
  · rw [List.length_take]; omega
  · exact h5
theorem l20Keeper_tot (b : List Int) (i s : Int) (h : Rd b i) : Tot (fun k => spec_l20Keeper.f k b i s) (fun r => ∃ (x : KV) (i' s' : Int), r = (x.1, x.2.1, x.2.2.1, x.2.2.2.1, x.2.2.2.2, b, i', s') ∧ Rd b i' ∧ KI 14 x ∧ x.2.2.2.2.length = 3 ∧ x.1.length ≤ 200) := by
  unfold spec_l20Keeper.f
  refine Tot.bind1 spec_KeeperNew_ev ?_
  have h111 : I64s [1, 1, 1] := fun v hv => by simp at hv; omega
  refine Tot.up (fun k (t : Int × Int × KV) j => spec_l20Keeper.l0 k b t.1 t.2.1 t.2.2.1 t.2.2.2.1 t.2.2.2.2.1 t.2.2.2.2.2.1 t.2.2.2.2.2.2 j) 14 (fun j t => Rd b t.1 ∧ KI j t.2.2 ∧ t.2.2.2.2.2.2.length = 3 ∧ t.2.2.1.length ≤ 200) ?_ (i, s, [], [1, 1, 1], [], 0, [1, 1, 1]) ⟨h, ⟨rfl, by simp, h111, h111, by simp, by simp⟩, rfl, by simp⟩
  rintro j ⟨i, s, L, N, E, a, A⟩ hj ⟨hr, ⟨k1, k2, k3, k4, k5, k6⟩, hA, hL⟩ next
  replace k1 : N.length = 3 := k1
  replace k3 : I64s N := k3
  replace k4 : I64s A := k4
  replace k6 : E.length ≤ j := k6
  replace hA : A.length = 3 := hA
  replace hL : L.length ≤ 200 := hL
  replace hr : Rd b i := hr
  refine Tot.step (fun _ => rfl) ?_
  simp only [spec_l20Keeper.l0]
  refine Tot.below hr (by omega) (fun v i1 s1 h1 v0 v1 => ?_)
  refine Tot.both (fun hv => ?_) (fun _ => Tot.now ⟨(L, N, E, a, A), _, _, rfl, h1, ⟨k1, k2, k3, k4, k5, by show E.length ≤ 14; omega⟩, hA, hL⟩)
  have hv' : (j : Int) < v := hv
  have e1 : wrap64 ((j : Int) + 1) = (j : Int) + 1 := w64 (by omega) (by omega)
  rw [e1]
  refine Tot.below h1 (by omega) (fun v2 i2 s2 h2 _ _ => ?_)
  refine Tot.both (fun _ => ?_) (fun _ => Tot.both (fun _ => ?_) (fun _ => ?_))
  · refine Tot.bindc1 (spec_SaveKeeper_of L N E a A (by omega) (by omega) (by omega) (by omega)) ?_
    exact next (i2, s2, L, N, E, (L.length : Int), N) (by omega) ⟨h2, ⟨k1, by show N.length ≤ 3; omega, k3, k3, k5, by show E.length ≤ j + 1; omega⟩, k1, hL⟩
  · refine Tot.bind1 (spec_FallKeeper_ev L N E a A (by omega) (by omega) (by omega) (by omega)) ?_
    refine next (i2, s2, fallV L N E a A) (by omega) ⟨h2, fallV_KI L N E a A ⟨k1, k2, k3, k4, k5, k6⟩ hA, hA, ?_⟩
    show (if 0 ≤ a ∧ a ≤ (L.length : Int) then L.take a.toNat else L).length ≤ 200
    split
    · rw [List.length_take]; omega
    · exact hL
  · refine Tot.below h2 (by omega) (fun v3 i3 s3 h3 v30 v31 => ?_)
    refine Tot.grd v30 (Tot.grd (by show v3 < (N.length : Int); omega) ?_)
    refine Tot.pick h3 (by simp) (fun v4 i4 s4 h4 _ => ?_)
    refine Tot.item h4 (fun x0 x1 x2 x3 i5 s5 h5 _ => ?_)
    obtain ⟨r, r1, _, ⟨r3, r4, r5, r6, r7⟩, _⟩ := kept_ev L N E a A 1 v3 (wrap64 ((rd N v3) + v4)) x0 x1 x2 x3 (by omega) (by omega) (by omega) (by omega) k3
    refine Tot.bind1 r1 ?_
    obtain ⟨y0, y1, y2, y3, y4, y5⟩ := r
    replace r3 : y0.length ≤ L.length ∨ y0.length ≤ 200 := r3
    replace r4 : y1.length = N.length := r4
    replace r5 : I64s y1 := r5
    replace r6 : y2.length ≤ E.length + 1 := r6
    replace r7 : y4 = A := r7
    subst r7
    exact next (i5, s5, y0, y1, y2, y3, y4) (by omega) ⟨h5, ⟨by show y1.length = 3; omega, k2, r5, k4, by show y0.length ≤ 201; omega, by show y2.length ≤ j + 1; omega⟩, hA, by show y0.length ≤ 200; omega⟩
theorem sameEntries_ev (l : List S98) (hl : l.length ≤ 4611686018427387904) : Ev (fun k => laws_sameEntries.f k l l) true := by
  unfold laws_sameEntries.f
  refine Ev.pos rfl ?_
  refine same_ev (fun k i => laws_sameEntries.l0 k l l i) l ?_ ?_
  · refine Ev.step (f := fun _ => some true) (fun k => ?_) (Ev.now _)
    simp only [laws_sameEntries.l0]; rw [if_neg (by omega)]
  · intro i x hx h
    have hi := lt_of hx
    refine Ev.step (fun _ => rfl) ?_
    simp only [laws_sameEntries.l0]; rw [w64 (x := (i : Int) + 1) (by omega) (by omega)]
    exact Ev.pos (by omega) (Ev.pos (by omega) (Ev.pos (by omega) (Ev.pos (by simp) h)))
theorem places_tot (b : List Int) (hb : b.length ≤ 1048576) : Tot (fun k => spec_DrawPlaces.f k b) (fun r => r.length = 12 ∧ ∀ v ∈ r, 0 ≤ v ∧ v < 10000) := by
  have hr : Rd b 0 := ⟨by omega, by omega, by omega⟩
  obtain ⟨s0, n0⟩ := l01New_ev b hb
  unfold spec_DrawPlaces.f
  refine Tot.bind1 n0 ?_
  obtain ⟨v, i1, s1, e1, h1, _⟩ := l01Byte_of b 0 s0 hr
  refine Tot.bindc1 e1 ?_
  refine Tot.up (fun k (t : Int × Int × List Int) j => spec_DrawPlaces.l0 k b t.1 t.2.1 t.2.2 j) 12 (fun j t => Rd b t.1 ∧ t.2.2.length = j ∧ ∀ v ∈ t.2.2, 0 ≤ v ∧ v < 10000) ?_ (i1, s1, []) ⟨h1, rfl, fun v hv => by simp at hv⟩
  rintro j ⟨i, s, q⟩ hj ⟨hr, hl, hv⟩ next
  replace hr : Rd b i := hr
  replace hl : q.length = j := hl
  replace hv : ∀ v ∈ q, 0 ≤ v ∧ v < 10000 := hv
  refine Tot.step (fun _ => rfl) ?_
  simp only [spec_DrawPlaces.l0]
  rw [w64 (x := (j : Int) + 1) (by omega) (by omega)]
  refine Tot.both (fun hlt => ?_) (fun hge => Tot.now ⟨by omega, hv⟩)
  refine Tot.below hr (by omega) (fun v2 i2 s2 h2 v20 v21 => Tot.grd (by simp; omega) ?_)
  refine next (i2, s2, q ++ [v2]) (by omega) ⟨h2, by simp; omega, fun v hv' => ?_⟩
  rcases List.mem_append.1 hv' with h | h
  · exact hv v h
  · rw [List.mem_singleton] at h; omega
/-- A keeper that is right, all its lines told so by Q, with at most m of them and of what came early. -/
structure KOk (Q : Int → Int → S34 → Prop) (m : Nat) (L : List En) (N : List Int) (E : List Er) (s : Int) (A : List Int) : Prop where
  hN : N.length = 3
  hA : A.length = 3
  hg : good L (List.replicate 3 0) = true
  hs : 0 ≤ s ∧ s ≤ (L.length : Int)
  nx : ∀ p, 0 ≤ p → p ≤ 2 → rd N p = rd (bumps L (List.replicate 3 0)) p + 1
  ak : ∀ p, 0 ≤ p → p ≤ 2 → rd A p = rd (bumps (L.take s.toNat) (List.replicate 3 0)) p + 1
  e3 : E.length ≤ 3
  eo : ∀ e ∈ E, (0 ≤ e.f0 ∧ e.f0 ≤ 2) ∧ rd N e.f0 + 1 ≤ e.f1 ∧ e.f1 ≤ 1000000000 ∧ itemOk e.f2 = true
  ed : E.Pairwise (fun x y => ¬ (x.f0 = y.f0 ∧ x.f1 = y.f1))
  hm : L.length + E.length ≤ m
  qL : ∀ e ∈ L, Q e.f0 e.f1 e.f2
  qE : ∀ e ∈ E, Q e.f0 e.f1 e.f2
theorem mem_rd {N : List Int} (hN : N.length = 3) {v : Int} (hv : v ∈ N) : ∃ p, 0 ≤ p ∧ p ≤ 2 ∧ v = rd N p := by
  obtain ⟨j, hj, rfl⟩ := List.getElem_of_mem hv
  exact ⟨(j : Int), by omega, by omega, by unfold rd; exact (get_of N 0 (List.getElem?_eq_getElem hj)).symm⟩
theorem early_ok (L : List En) (N : List Int) (E : List Er) (s : Int) (A : List Int) (hN : N.length = 3) (hE : E.length ≤ 3) (bN : ∀ p, 0 ≤ p → p ≤ 2 → 0 ≤ rd N p ∧ rd N p ≤ 2000000)
    (eo : ∀ e ∈ E, (0 ≤ e.f0 ∧ e.f0 ≤ 2) ∧ rd N e.f0 + 1 ≤ e.f1 ∧ e.f1 ≤ 1000000000 ∧ itemOk e.f2 = true) (ed : E.Pairwise (fun x y => ¬ (x.f0 = y.f0 ∧ x.f1 = y.f1))) :
    ∀ (d i : Nat), E.length - i = d → i ≤ E.length → Ev (fun k => impl_KeeperOk.l3 k L N E s A (i : Int)) true := by
  intro d
  induction d with
  | zero =>
    intro i hd hi
    refine Ev.step (fun _ => rfl) ?_
    simp only [impl_KeeperOk.l3]; exact Ev.neg (by omega) (Ev.now _)
  | succ d ih =>
    intro i hd hi
    have hx : E[i]? = some E[i] := List.getElem?_eq_getElem (by omega)
    obtain ⟨hp, h1, h2, h3⟩ := eo E[i] (List.getElem_mem _)
    have hn := bN _ hp.1 hp.2
    obtain ⟨t, t1, t2, t3⟩ := earlyAt_ev (E.take i) (by simp; omega) E[i].f0 E[i].f1
    have ht : t = -1 := by
      rcases t3 with ⟨h, _⟩ | ⟨j, y, _, hy, h4, h5⟩
      · exact h
      · exfalso
        have hj : j < i := by have := (List.getElem?_eq_some_iff.1 hy).1; rw [List.length_take] at this; omega
        rw [List.getElem?_take, if_pos hj, List.getElem?_eq_getElem (by omega)] at hy
        injection hy with hy
        rw [← hy] at h4 h5
        exact List.pairwise_iff_getElem.1 ed j i (by omega) (by omega) hj ⟨h4, h5⟩
    clear t3
    subst ht
    have hi1 : ((i : Int)).toNat = i := Int.toNat_natCast i
    refine Ev.step (fun _ => rfl) ?_
    simp only [impl_KeeperOk.l3]; rw [rd97 hx, hi1, w64 (x := (i : Int) + 1) (by omega) (by omega), show (i : Int) + 1 = ((i + 1 : Nat) : Int) by omega]
    refine Ev.pos (by omega) (Ev.pos (by omega) (Ev.bindc (isPid_dec _) (Ev.pos (by simpa using hp) (Ev.bindc (impl_ItemOk_of _) (Ev.pos h3 (Ev.pos hp.1 (Ev.pos (by omega) (Ev.neg (by omega) (Ev.neg (by omega) ?_)))))))))
    first
      | exact Ev.pos (by omega) (Ev.bind t2 (Ev.neg (by omega) (ih (i + 1) (by omega) (by omega))))
      | exact Ev.pos (by omega) (Ev.pos (by omega) (Ev.bind t2 (Ev.neg (by omega) (ih (i + 1) (by omega) (by omega)))))
theorem KOk.ok {Q : Int → Int → S34 → Prop} {m : Nat} {L : List En} {N : List Int} {E : List Er} {s : Int} {A : List Int} (h : KOk Q m L N E s A) (hm : m ≤ 200) : Ev (fun k => impl_KeeperOk.f k L N E s A) true := by
  have hL : L.length ≤ 200 := by have := h.hm; omega
  have hsplit := (good_app (L.take s.toNat) (L.drop s.toNat) (List.replicate 3 0)).1 (by rw [List.take_append_drop]; exact h.hg)
  have bm := (bumps_bd L _ 0 h.hg bd0).up (j := 1048576) (by omega)
  have bs0 := bumps_bd _ _ 0 hsplit.1 bd0
  have bs := bs0.up (j := 1048576) (by simp; omega)
  have bN : ∀ p, 0 ≤ p → p ≤ 2 → 0 ≤ rd N p ∧ rd N p ≤ 2000000 := fun p h0 h1 => by
    have h2 := h.nx p h0 h1
    have h3 := bm.rd h0 h1
    omega
  have bA : ∀ p, 0 ≤ p → p ≤ 2 → 0 ≤ rd A p ∧ rd A p ≤ 2000000 := fun p h0 h1 => by
    have h2 := h.ak p h0 h1
    have h3 := bs.rd h0 h1
    omega
  have hle : ∀ p, 0 ≤ p → p ≤ 2 → rd (bumps (L.take s.toNat) (List.replicate 3 0)) p ≤ rd (bumps L (List.replicate 3 0)) p := by
    intro p p0 p1
    have h1 := bumps_le (L.drop s.toNat) _ _ hsplit.2 bs0 p p0 p1
    rw [← bumps_app, List.take_append_drop] at h1
    exact h1
  have hw : W3 N A 0 := by
    intro j h1 h2
    have h3 := bm.rd (p := (j : Int)) (by omega) (by omega)
    have h4 := bs.rd (p := (j : Int)) (by omega) (by omega)
    have h5 := hle (j : Int) (by omega) (by omega)
    have h6 := h.nx (j : Int) (by omega) (by omega)
    have h7 := h.ak (j : Int) (by omega) (by omega)
    have h8 := bN (j : Int) (by omega) (by omega)
    omega
  have hq : Q3 N A (bumps L (List.replicate 3 0)) (bumps (L.take s.toNat) (List.replicate 3 0)) 0 := fun j _ h2 => ⟨h.nx (j : Int) (by omega) (by omega), h.ak (j : Int) (by omega) (by omega)⟩
  have i64N : ∀ v ∈ N, -9223372036854775808 ≤ v ∧ v ≤ 9223372036854775807 := fun v hv => by
    obtain ⟨p, p0, p1, rfl⟩ := mem_rd h.hN hv
    have := bN p p0 p1; omega
  have i64A : ∀ v ∈ A, -9223372036854775808 ≤ v ∧ v ≤ 9223372036854775807 := fun v hv => by
    obtain ⟨p, p0, p1, rfl⟩ := mem_rd h.hA hv
    have := bA p p0 p1; omega
  obtain ⟨m1, m2⟩ := many_ev L N E s A h.hs.1 h.hs.2 (by omega) _ 0 _ _ rfl (by omega) bd0 bd0
  rw [List.drop_zero] at m1 m2
  rw [List.drop_zero] at m2
  obtain ⟨i1, _⟩ := implIn_ev L N E s A h.hN h.hA _ 0 rfl (by omega)
  obtain ⟨q1, _⟩ := implCmp_ev L N E s A _ _ h.hN h.hA bm bs i64N i64A _ 0 rfl (by omega)
  have e := early_ok L N E s A h.hN h.e3 bN h.eo h.ed _ 0 rfl (Nat.zero_le _)
  have hs := h.hs
  have he := h.e3
  unfold impl_KeeperOk.f
  exact Ev.pos (by have := h.hN; omega) (Ev.pos (by have := h.hA; omega) (Ev.neg (by omega) (Ev.bindc (within_of _ _ _) (Ev.pos (by simpa using hs) (Ev.neg (by omega) (i1 hw _ (m2 h.hg _ (q1 hq _ e))))))))
theorem bumps_one (e : En) (L : List En) (c : List Int) : bumps (L ++ [e]) c = bump (bumps L c) e.f0 := by rw [bumps_app]; rfl
theorem rd_bump (c : List Int) (p q : Int) (p0 : 0 ≤ p) (p1 : p ≤ 2) (q0 : 0 ≤ q) (hc : c.length = 3) : rd (bump c p) q = if q = p then rd c p + 1 else rd c q := by
  unfold bump
  by_cases h : q = p
  · subst h; rw [if_pos rfl, rd_set c q _ q0 (by omega)]
  · rw [if_neg h, rd_set_ne c p q _ p0 q0 (Ne.symm h)]
/-- Kept keeps a right keeper right. -/
theorem KOk.kept {Q : Int → Int → S34 → Prop} {m : Nat} {L : List En} {N : List Int} {E : List Er} {s : Int} {A : List Int} (h : KOk Q m L N E s A) (hm : m ≤ 100) {kd p sq q0 q1 q2 q3 : Int} (hq : kd = 1 → Q p sq ⟨q0, q1, q2, q3⟩) {r : KR} (d : KD L N E s A kd p sq q0 q1 q2 q3 r) (hf : spec_FrameOk.f kd p sq q0 q1 q2 q3 = some true → kd = 1 → (0 ≤ p ∧ p ≤ 2) ∧ (1 ≤ sq ∧ sq ≤ 1000000000) ∧ itemOk ⟨q0, q1, q2, q3⟩ = true) :
    ∃ L' N' E' o, r = (L', N', E', s, A, o) ∧ KOk Q (m + 1) L' N' E' s A := by
  have bm := (bumps_bd L _ 0 h.hg bd0)
  have hLm := h.hm
  rcases d with d | ⟨d1, d2, d3, d4, d5, d6, d7⟩ | ⟨d1, d2, d3, d4, d5, d6⟩
  · exact ⟨_, _, _, _, d, ⟨h.hN, h.hA, h.hg, h.hs, h.nx, h.ak, h.e3, h.eo, h.ed, by omega, h.qL, h.qE⟩⟩
  · obtain ⟨f1, f2, f3⟩ := hf d1 d2
    refine ⟨_, _, _, _, d7, ⟨h.hN, h.hA, h.hg, h.hs, h.nx, h.ak, by simp; omega, ?_, ?_, by simp; omega, h.qL, ?_⟩⟩
    · intro e he
      rcases List.mem_append.1 he with he | he
      · exact h.eo e he
      · rw [List.mem_singleton] at he; subst he
        exact ⟨f1, by dsimp only; omega, f2.2, f3⟩
    · rw [List.pairwise_append]
      exact ⟨h.ed, List.pairwise_singleton _ _, fun x hx y hy => by rw [List.mem_singleton] at hy; subst hy; exact d5 x hx⟩
    · intro e he
      rcases List.mem_append.1 he with he | he
      · exact h.qE e he
      · rw [List.mem_singleton] at he; subst he; exact hq d2
  · obtain ⟨f1, f2, f3⟩ := hf d1 d2
    have hnp := h.nx p f1.1 f1.2
    -- what the loop keeps
    have key := d6 (fun L1 E1 x => good L1 (List.replicate 3 0) = true ∧ x = rd (bumps L1 (List.replicate 3 0)) p + 1 ∧ (∀ q, 0 ≤ q → q ≤ 2 → q ≠ p → rd N q = rd (bumps L1 (List.replicate 3 0)) q + 1) ∧ L1.take s.toNat = L.take s.toNat ∧ L.length ≤ L1.length ∧
        E1.length ≤ 3 ∧ (∀ e ∈ E1, (0 ≤ e.f0 ∧ e.f0 ≤ 2) ∧ (e.f0 ≠ p → rd N e.f0 + 1 ≤ e.f1) ∧ (e.f0 = p → x ≤ e.f1) ∧ e.f1 ≤ 1000000000 ∧ itemOk e.f2 = true) ∧ E1.Pairwise (fun x y => ¬ (x.f0 = y.f0 ∧ x.f1 = y.f1)) ∧ L1.length + E1.length ≤ m + 1 ∧ (∀ e ∈ L1, Q e.f0 e.f1 e.f2) ∧ (∀ e ∈ E1, Q e.f0 e.f1 e.f2)) ?_ ?_
    · obtain ⟨L', E', x', rfl, hI, hend⟩ := key
      obtain ⟨g1, g2, g3, g4, g5, g6, g7, g8, g9, g10, g11⟩ := hI
      have hL' : L'.length < 200 := by omega
      have hnone : ∀ y ∈ E', ¬ (y.f0 = p ∧ y.f1 = x') := by rcases hend with hend | hend; omega; exact hend
      have hrp : rd (N.set p.toNat x') p = x' := rd_set N p x' f1.1 d3
      have hrq : ∀ q, 0 ≤ q → q ≠ p → rd (N.set p.toNat x') q = rd N q := fun q h0 h1 => rd_set_ne N p q x' f1.1 h0 (Ne.symm h1)
      refine ⟨_, _, _, _, rfl, ⟨by rw [List.length_set]; exact h.hN, h.hA, g1, by have := h.hs; omega, ?_, by rw [g4]; exact h.ak, g6, ?_, g8, g9, g10, g11⟩⟩
      · intro q q0 q1
        by_cases hqp : q = p
        · rw [hqp, hrp, g2]
        · rw [hrq q q0 hqp]; exact g3 q q0 q1 hqp
      · intro e he
        obtain ⟨e1, e2, e4, e5, e6⟩ := g7 e he
        refine ⟨e1, ?_, e5, e6⟩
        by_cases hep : e.f0 = p
        · rw [hep, hrp]
          have h1 := e4 hep
          have h2 := hnone e he
          have h3 : e.f1 ≠ x' := fun h3 => h2 ⟨hep, h3⟩
          omega
        · rw [hrq e.f0 e1.1 hep]; exact e2 hep
    · rintro L1 E1 x j y hl hy hyp hyx ⟨g1, g2, g3, g4, g5, g6, g7, g8, g9, g10, g11⟩
      have bm1 := bumps_bd L1 _ 0 g1 bd0
      have hx := bm1.rd f1.1 f1.2
      have hmem : y ∈ E1 := List.mem_of_getElem? hy
      obtain ⟨y1, _, _, y4, y5⟩ := g7 y hmem
      have hj := (List.getElem?_eq_some_iff.1 hy).1
      have hw : wrap64 (x + 1) = x + 1 := w64 (by omega) (by omega)
      have hlen : (E1.eraseIdx j).length = E1.length - 1 := List.length_eraseIdx_of_lt hj
      have hsub : ∀ e ∈ E1.eraseIdx j, e ∈ E1 := fun e he => List.mem_of_mem_eraseIdx he
      rw [hw]
      refine ⟨?_, ?_, ?_, ?_, by rw [List.length_append]; omega, by omega, ?_, List.Pairwise.sublist (List.eraseIdx_sublist E1 j) g8, by rw [List.length_append, hlen, List.length_singleton]; omega, ?_, fun e he => g11 e (hsub e he)⟩
      · rw [good_app]
        refine ⟨g1, ?_⟩
        rw [good_cons]
        exact ⟨by unfold okE; rw [Bool.and_eq_true]; exact ⟨decide_eq_true f1, y5⟩, g2, rfl⟩
      · rw [bumps_one, rd_bump _ _ _ f1.1 f1.2 f1.1 bm1.1, if_pos rfl, g2]
      · intro q q0 q1 hqp
        rw [bumps_one, rd_bump _ _ _ f1.1 f1.2 q0 bm1.1, if_neg hqp]
        exact g3 q q0 q1 hqp
      · rw [List.take_append_of_le_length (by have := h.hs; omega)]; exact g4
      · intro e he
        obtain ⟨e1, e2, e4, e5, e6⟩ := g7 e (hsub e he)
        refine ⟨e1, e2, fun hep => ?_, e5, e6⟩
        have h1 := e4 hep
        have hne : e.f1 ≠ x := by
          intro hex
          obtain ⟨i, hi, rfl⟩ := List.getElem_of_mem he
          rw [List.getElem_eraseIdx] at hep hex
          have hyj : E1[j] = y := by rw [List.getElem?_eq_getElem hj] at hy; exact Option.some.inj hy
          split at hep
          · next hij => rw [dif_pos hij] at hex; exact List.pairwise_iff_getElem.1 g8 i j (by omega) hj hij ⟨by rw [hyj, hep, hyp], by rw [hyj, hex, hyx]⟩
          · next hij => rw [dif_neg hij] at hex; exact List.pairwise_iff_getElem.1 g8 j (i + 1) hj (by omega) (by omega) ⟨by rw [hyj, hep, hyp], by rw [hyj, hex, hyx]⟩
        omega
      · intro e he
        rcases List.mem_append.1 he with he | he
        · exact g10 e he
        · rw [List.mem_singleton] at he; subst he
          have := g11 y hmem
          rw [hyp, hyx] at this
          exact this
    · have hx := bm.rd f1.1 f1.2
      have hw : wrap64 (sq + 1) = sq + 1 := w64 (by omega) (by omega)
      rw [hw]
      refine ⟨?_, ?_, ?_, ?_, by rw [List.length_append]; omega, h.e3, ?_, h.ed, by rw [List.length_append, List.length_singleton]; omega, ?_, h.qE⟩
      · rw [good_app]
        refine ⟨h.hg, ?_⟩
        rw [good_cons]
        exact ⟨by unfold okE; rw [Bool.and_eq_true]; exact ⟨decide_eq_true f1, f3⟩, by dsimp only; omega, rfl⟩
      · rw [bumps_one, rd_bump _ _ _ f1.1 f1.2 f1.1 bm.1, if_pos rfl]; omega
      · intro q q0 q1 hqp
        rw [bumps_one, rd_bump _ _ _ f1.1 f1.2 q0 bm.1, if_neg hqp]
        exact h.nx q q0 q1
      · rw [List.take_append_of_le_length (by have := h.hs; omega)]
      · intro e he
        obtain ⟨e1, e2, e5, e6⟩ := h.eo e he
        exact ⟨e1, fun _ => e2, fun hep => by rw [hep] at e2; omega, e5, e6⟩
      · intro e he
        rcases List.mem_append.1 he with he | he
        · exact h.qL e he
        · rw [List.mem_singleton] at he; subst he; exact hq d2
theorem frame_right {kd p sq q0 q1 q2 q3 : Int} (h : spec_FrameOk.f kd p sq q0 q1 q2 q3 = some true) (hk : kd = 1) : (0 ≤ p ∧ p ≤ 2) ∧ (1 ≤ sq ∧ sq ≤ 1000000000) ∧ itemOk ⟨q0, q1, q2, q3⟩ = true := by
  obtain ⟨b, f1, f2⟩ := frameOk_of kd p sq q0 q1 q2 q3
  have hb : b = true := by rw [h] at f1; exact (Option.some.inj f1).symm
  subst hb
  obtain ⟨h1, h2, _⟩ := f2 rfl
  refine ⟨h1, h2, ?_⟩
  unfold spec_FrameOk.f at h
  have e : spec_ItemOk.f q0 q1 q2 q3 = some (itemOk ⟨q0, q1, q2, q3⟩) := spec_ItemOk_of ⟨q0, q1, q2, q3⟩
  simp only [spec_l01In_of, Option.bind_some] at h
  rw [if_pos (by simpa using h1), if_pos (by simpa using h2), if_pos hk, e] at h
  simpa using h
theorem KOk.mono {Q Q' : Int → Int → S34 → Prop} {m m' : Nat} {L : List En} {N : List Int} {E : List Er} {s : Int} {A : List Int} (h : KOk Q m L N E s A) (hm : m ≤ m') (hq : ∀ a b c, Q a b c → Q' a b c) : KOk Q' m' L N E s A :=
  ⟨h.hN, h.hA, h.hg, h.hs, h.nx, h.ak, h.e3, h.eo, h.ed, by have := h.hm; omega, fun e he => hq _ _ _ (h.qL e he), fun e he => hq _ _ _ (h.qE e he)⟩
theorem KOk.save {Q : Int → Int → S34 → Prop} {m : Nat} {L : List En} {N : List Int} {E : List Er} {s : Int} {A : List Int} (h : KOk Q m L N E s A) : KOk Q m L N E (L.length : Int) N :=
  ⟨h.hN, h.hN, h.hg, by omega, h.nx, by rw [Int.toNat_natCast, List.take_length]; exact h.nx, h.e3, h.eo, h.ed, h.hm, h.qL, h.qE⟩
theorem KOk.fall {Q : Int → Int → S34 → Prop} {m : Nat} {L : List En} {N : List Int} {E : List Er} {s : Int} {A : List Int} (h : KOk Q m L N E s A) : fallV L N E s A = (L.take s.toNat, A, [], s, A) ∧ KOk Q m (L.take s.toNat) A [] s A := by
  have hs := h.hs
  have hm := h.hm
  refine ⟨by unfold fallV; rw [if_pos hs], ⟨h.hA, h.hA, ((good_app (L.take s.toNat) (L.drop s.toNat) _).1 (by rw [List.take_append_drop]; exact h.hg)).1, by rw [List.length_take]; omega, h.ak, ?_, by simp, fun e he => by simp at he, List.Pairwise.nil, by rw [List.length_take]; simp; omega, fun e he => h.qL e (List.mem_of_mem_take he), fun e he => by simp at he⟩⟩
  rw [List.take_take, Nat.min_self]; exact h.ak
theorem kok_new (Q : Int → Int → S34 → Prop) : KOk Q 0 [] [1, 1, 1] [] 0 [1, 1, 1] := by
  have key : ∀ p : Int, 0 ≤ p → p ≤ 2 → rd [1, 1, 1] p = rd (bumps [] (List.replicate 3 0)) p + 1 := by
    intro p h0 h1
    obtain rfl | rfl | rfl : p = 0 ∨ p = 1 ∨ p = 2 := by omega
    all_goals rfl
  exact ⟨rfl, rfl, rfl, by simp, key, key, by simp, fun e he => by simp at he, List.Pairwise.nil, by simp, fun e he => by simp at he, fun e he => by simp at he⟩
theorem KOk.lens {Q : Int → Int → S34 → Prop} {m : Nat} {L : List En} {N : List Int} {E : List Er} {s : Int} {A : List Int} (h : KOk Q m L N E s A) (hm : m ≤ 100) : L.length ≤ 100 ∧ N.length = 3 ∧ E.length ≤ 3 ∧ A.length = 3 ∧ I64s N ∧ (0 ≤ s ∧ s ≤ (L.length : Int)) := by
  have h1 := h.hm
  refine ⟨by omega, h.hN, h.e3, h.hA, fun v hv => ?_, h.hs⟩
  obtain ⟨p, p0, p1, rfl⟩ := mem_rd h.hN hv
  have h2 := h.nx p p0 p1
  have h3 := (bumps_bd L _ 0 h.hg bd0).rd p0 p1
  omega
theorem l20Keeper_right (b : List Int) (i s : Int) (h : Rd b i) : Tot (fun k => spec_l20Keeper.f k b i s) (fun r => ∃ (x : KV) (i' s' : Int), r = (x.1, x.2.1, x.2.2.1, x.2.2.2.1, x.2.2.2.2, b, i', s') ∧ KOk (fun _ _ _ => True) 14 x.1 x.2.1 x.2.2.1 x.2.2.2.1 x.2.2.2.2) := by
  unfold spec_l20Keeper.f
  refine Tot.bind1 spec_KeeperNew_ev ?_
  refine Tot.up (fun k (t : Int × Int × KV) j => spec_l20Keeper.l0 k b t.1 t.2.1 t.2.2.1 t.2.2.2.1 t.2.2.2.2.1 t.2.2.2.2.2.1 t.2.2.2.2.2.2 j) 14 (fun j t => Rd b t.1 ∧ KOk (fun _ _ _ => True) j t.2.2.1 t.2.2.2.1 t.2.2.2.2.1 t.2.2.2.2.2.1 t.2.2.2.2.2.2) ?_ (i, s, [], [1, 1, 1], [], 0, [1, 1, 1]) ⟨h, kok_new _⟩
  rintro j ⟨i, s, L, N, E, a, A⟩ hj ⟨hr, hk⟩ next
  replace hr : Rd b i := hr
  replace hk : KOk (fun _ _ _ => True) j L N E a A := hk
  obtain ⟨k1, k2, k3, k4, k5, k6⟩ := hk.lens (by omega)
  refine Tot.step (fun _ => rfl) ?_
  simp only [spec_l20Keeper.l0]
  refine Tot.below hr (by omega) (fun v i1 s1 h1 v0 v1 => ?_)
  refine Tot.both (fun hv => ?_) (fun _ => Tot.now ⟨(L, N, E, a, A), _, _, rfl, hk.mono hj fun _ _ _ h => h⟩)
  have hv' : (j : Int) < v := hv
  have e1 : wrap64 ((j : Int) + 1) = (j : Int) + 1 := w64 (by omega) (by omega)
  rw [e1]
  refine Tot.below h1 (by omega) (fun v2 i2 s2 h2 _ _ => ?_)
  refine Tot.both (fun _ => ?_) (fun _ => Tot.both (fun _ => ?_) (fun _ => ?_))
  · refine Tot.bindc1 (spec_SaveKeeper_of L N E a A (by omega) (by omega) (by omega) (by omega)) ?_
    exact next (i2, s2, L, N, E, (L.length : Int), N) (by omega) ⟨h2, hk.save.mono (by omega) fun _ _ _ h => h⟩
  · have g := spec_FallKeeper_ev L N E a A (by omega) (by omega) (by omega) (by omega)
    rw [hk.fall.1] at g
    refine Tot.bind1 g ?_
    exact next (i2, s2, L.take a.toNat, A, [], a, A) (by omega) ⟨h2, hk.fall.2.mono (by omega) fun _ _ _ h => h⟩
  · refine Tot.below h2 (by omega) (fun v3 i3 s3 h3 v30 v31 => ?_)
    refine Tot.grd v30 (Tot.grd (by show v3 < (N.length : Int); omega) ?_)
    refine Tot.pick h3 (by simp) (fun v4 i4 s4 h4 _ => ?_)
    refine Tot.item h4 (fun x0 x1 x2 x3 i5 s5 h5 _ => ?_)
    obtain ⟨r, r1, _, _, r4⟩ := kept_ev L N E a A 1 v3 (wrap64 ((rd N v3) + v4)) x0 x1 x2 x3 (by omega) (by omega) (by omega) (by omega) k5
    obtain ⟨L', N', E', o, rfl, hk'⟩ := hk.kept (by omega) (fun _ => trivial) r4 (fun hf hk1 => frame_right hf hk1)
    refine Tot.bind1 r1 ?_
    exact next (i5, s5, L', N', E', a, A) (by omega) ⟨h5, hk'⟩
/-- As many lines of p as were counted. -/
theorem ent_count (p : Int) (p0 : 0 ≤ p) (p2 : p ≤ 2) : ∀ (L : List En) (c : List Int) (i : Nat) (s : List S34), good L c = true → Bd c i → ((foldE (entOn p) id L s).length : Int) = (s.length : Int) + rd (bumps L c) p - rd c p
  | [], c, i, s, _, _ => by simp [foldE, bumps]
  | e :: L, c, i, s, hg, hB => by
    rw [good_cons] at hg
    obtain ⟨g1, g2, g3⟩ := hg
    have hp := okE_pid g1
    rw [foldE_on L (show entOn p s e = .ok _ from rfl), ent_count p p0 p2 L (bump c e.f0) (i + 1) _ g3 (hB.bump hp.1 hp.2), rd_bump c e.f0 p hp.1 hp.2 p0 hB.1]
    show _ = (s.length : Int) + rd (bumps L (bump c e.f0)) p - rd c p
    by_cases h : e.f0 = p
    · rw [if_pos h, if_pos h.symm, h]; simp; omega
    · rw [if_neg h, if_neg (Ne.symm h)]
theorem ent_one (L : List En) (hq : ∀ e ∈ L, e.f0 = 1) : ∀ s, foldE (entOn 1) id L s = s ++ L.map (fun e => e.f2) := by
  induction L with
  | nil => intro s; simp [foldE]
  | cons e L ih =>
    intro s
    rw [foldE_on L (show entOn 1 s e = .ok _ from rfl), ih (fun x hx => hq x (List.mem_cons_of_mem _ hx)), if_pos (hq e List.mem_cons_self)]
    simp
theorem ent_none (L : List En) (hq : ∀ e ∈ L, e.f0 = 1) : ∀ s, foldE (entOn 0) id L s = s := by
  induction L with
  | nil => intro s; simp [foldE]
  | cons e L ih =>
    intro s
    rw [foldE_on L (show entOn 0 s e = .ok _ from rfl), ih (fun x hx => hq x (List.mem_cons_of_mem _ hx)), if_neg (by rw [hq e List.mem_cons_self]; omega)]
theorem good_seq : ∀ (L : List En) (c : List Int) (i : Nat), good L c = true → Bd c i → (∀ e ∈ L, e.f0 = 1) → ∀ (j : Nat) e, L[j]? = some e → e.f1 = rd c 1 + 1 + (j : Int)
  | [], c, i, _, _, _, j, e, h => by simp at h
  | x :: L, c, i, hg, hB, hq, j, e, h => by
    rw [good_cons] at hg
    obtain ⟨g1, g2, g3⟩ := hg
    have hx := hq x List.mem_cons_self
    cases j with
    | zero => simp at h; subst h; rw [g2, hx]; simp
    | succ j =>
      have hb := rd_bump c x.f0 1 (by omega) (by omega) (by omega) hB.1
      rw [if_pos hx.symm, hx] at hb
      have := good_seq L (bump c x.f0) (i + 1) g3 (hB.bump (by omega) (by omega)) (fun y hy => hq y (List.mem_cons_of_mem _ hy)) j e (by simpa using h)
      rw [this, hx, hb]; omega
theorem fin_ev (l : List Int) (hl0 : l.length ≤ 1048576) (L1 : List En) (N1 : List Int) (E1 : List Er) (a1 : Int) (A1 : List Int) (h5 : L1.length ≤ 5) (hq1 : ∀ e ∈ L1, e.f0 = 1) : Ev (fun k => laws_FnKeeps.l1 k l L1 N1 E1 a1 A1 (L1.map (fun e => e.f2)) (L1.length : Int)) true := by
  have hr : Rd l 0 := ⟨by omega, by omega, by omega⟩
  obtain ⟨s0, n0⟩ := l01New_ev l (by omega)
  -- the drawn keeper
  have d1 : Tot (fun k => spec_DrawKeeper.f k l) (fun x : KV => KOk (fun _ _ _ => True) 14 x.1 x.2.1 x.2.2.1 x.2.2.2.1 x.2.2.2.2) := by
    unfold spec_DrawKeeper.f
    refine Tot.bind1 n0 (Tot.bind (l20Keeper_right l 0 s0 hr) ?_)
    rintro _ ⟨⟨L, N, E, a, A⟩, i', s', rfl, hk⟩
    exact Tot.now hk
  obtain ⟨⟨L, N, E, a, A⟩, e3, hk⟩ := d1
  replace hk : KOk (fun _ _ _ => True) 14 L N E a A := hk
  obtain ⟨k1, k2, k3, k4, k5, k6⟩ := hk.lens (by omega)
  have q1 := impl_SaveKeeper_of L N E a A (by omega) (by omega) (by omega) (by omega)
  have q2 := impl_FallKeeper_ev L N E (L.length : Int) N (by omega) (by omega) (by omega) (by omega)
  have hs := hk.save
  have hsf := hs.fall
  rw [Int.toNat_natCast, List.take_length] at hsf
  rw [hsf.1] at q2
  have q3 := impl_FallKeeper_ev L N E a A (by omega) (by omega) (by omega) (by omega)
  have hf := hk.fall
  rw [hf.1] at q3
  have q4 : impl_AckOf.f L N E a A 1 = some (2, 1, rd A 1, 0, 0, 0, 0, true) := by
    unfold impl_AckOf.f
    rw [within_of]
    simp only [Option.bind_some]
    rw [w64 (by omega) (by omega), if_pos (decide_eq_true (by omega)), if_pos (by omega), if_pos (by omega)]
  have q5 := hk.ok (by omega)
  have q6 := hsf.2.ok (by omega)
  have q7 := hf.2.ok (by omega)
  have hft : (L.take a.toNat).length ≤ 100 := by rw [List.length_take]; omega
  have q8 := spec_EntriesOf_ev (L.take a.toNat) A [] a A 1 (by omega)
  have q9 : ((entriesV 1 (L.take a.toNat)).length : Int) = rd (bumps (L.take a.toNat) (List.replicate 3 0)) 1 := by
    have h1 := ent_count 1 (by omega) (by omega) (L.take a.toNat) (List.replicate 3 0) 0 [] hf.2.hg bd0
    have h2 : rd (List.replicate 3 0) 1 = 0 := rfl
    unfold entriesV
    rw [h1, h2]; simp
  have qA : rd A 1 = wrap64 (((entriesV 1 (L.take a.toNat)).length : Int) + 1) := by
    have h1 := hk.ak 1 (by omega) (by omega)
    have h2 : (entriesV 1 (L.take a.toNat)).length ≤ (L.take a.toNat).length := by have := ent_length 1 (L.take a.toNat) []; simpa [entriesV] using this
    rw [w64 (by omega) (by omega), q9, h1]
  refine Ev.step (fun _ => rfl) ?_
  simp only [laws_FnKeeps.l1]
  have g2 := impl_EntriesOf_ev L1 N1 E1 a1 A1 0 (by omega)
  have hq3 : entriesV 0 L1 = [] := by unfold entriesV; rw [ent_none L1 hq1]
  rw [hq3] at g2
  refine Ev.neg (by rw [List.length_map]; omega) (Ev.bind e3 (Ev.bindc q1 (Ev.bind q2 (Ev.bind q3 (Ev.bindc q4 (Ev.pos (by rw [List.length_map]; omega) (Ev.bind q5 (Ev.pos rfl (Ev.bind q6 (Ev.pos rfl (Ev.bind q7 (Ev.pos rfl ?_))))))))))))
  refine Ev.bind (sameEntries_ev _ (by dsimp only; omega)) (Ev.pos rfl (Ev.pos k6.1 (Ev.pos k6.2 (Ev.bind (sameEntries_ev _ (by dsimp only; omega)) (Ev.pos rfl (Ev.pos rfl ?_))))))
  exact Ev.bind q8 (Ev.pos qA (Ev.bind g2 (Ev.some_ (by simp))))
theorem pure : Pure := by
  intro l hl
  refine Ev.rounds ?_
  unfold laws_FnKeeps.f
  refine Ev.bindc rfl ?_
  by_cases hbig : (l.length : Int) > 1048576
  · exact Ev.pos (by simpa using hbig) (Ev.now _)
  refine Ev.neg (by simpa using hbig) ?_
  have hl0 : l.length ≤ 1048576 := by omega
  obtain ⟨P, e2, hP, hv⟩ := places_tot l hl0
  refine Ev.bind e2 (Ev.bindc rfl ?_)
  -- the twelve
  have main : Tot (fun k => laws_FnKeeps.l0 k l P [] [1, 1, 1] [] 0 [1, 1, 1] 0) (fun r => r = true) := by
    refine Tot.up (fun k (t : KV) j => laws_FnKeeps.l0 k l P t.1 t.2.1 t.2.2.1 t.2.2.2.1 t.2.2.2.2 j) 12 (fun j t => KOk (fun p s x => p = 1 ∧ s ≤ 5 ∧ x.f1 = s) j t.1 t.2.1 t.2.2.1 t.2.2.2.1 t.2.2.2.2) ?_ ([], [1, 1, 1], [], 0, [1, 1, 1]) (kok_new _)
    rintro j ⟨L1, N1, E1, a1, A1⟩ hj hk1 next
    replace hk1 : KOk (fun p s x => p = 1 ∧ s ≤ 5 ∧ x.f1 = s) j L1 N1 E1 a1 A1 := hk1
    obtain ⟨m1, m2, m3, m4, m5, m6⟩ := hk1.lens (by omega)
    refine Tot.step (fun _ => rfl) ?_
    simp only [laws_FnKeeps.l0]
    have e1 : wrap64 ((j : Int) + 1) = (j : Int) + 1 := w64 (by omega) (by omega)
    rw [e1]
    refine Tot.both (fun hlt => ?_) (fun hge => ?_)
    · have hlt' : (j : Int) < 12 := hlt
      have hj12 : j < P.length := by omega
      obtain ⟨y, hy⟩ : ∃ y, P[j]? = some y := ⟨_, List.getElem?_eq_getElem hj12⟩
      have e : rd P (j : Int) = y := by unfold rd; exact get_of P 0 hy
      have hy0 := (hv y (List.mem_of_getElem? hy)).1
      have h5 := tmod_of (v := rd P (j : Int)) (n := 5) (by rw [e]; exact hy0) (by omega)
      generalize (rd P (j : Int)).tmod 5 = q at h5
      have hw : wrap64 (1 + q) = 1 + q := w64 (by omega) (by omega)
      rw [hw]
      refine Tot.grd (by omega) (Tot.grd (by omega) ?_)
      obtain ⟨r, _, r1, _, r4⟩ := kept_ev L1 N1 E1 a1 A1 1 1 (1 + q) 1 (1 + q) 7 0 (by omega) (by omega) (by omega) (by omega) m5
      obtain ⟨L', N', E', o, rfl, hk'⟩ := hk1.kept (kd := 1) (p := 1) (sq := 1 + q) (q0 := 1) (q1 := 1 + q) (q2 := 7) (q3 := 0) (by omega) (fun _ => ⟨rfl, by omega, rfl⟩) r4 (fun hf hk1 => frame_right hf hk1)
      refine Tot.bind1 r1 (Tot.bind1 (hk'.ok (by omega)) (Tot.pos rfl ?_))
      exact next (L', N', E', a1, A1) (by omega) hk'
    · have g1 := impl_EntriesOf_ev L1 N1 E1 a1 A1 1 (by omega)
      have hq1 : ∀ e ∈ L1, e.f0 = 1 := fun e he => (hk1.qL e he).1
      have hq2 : entriesV 1 L1 = L1.map (fun e => e.f2) := by unfold entriesV; rw [ent_one L1 hq1]; simp
      rw [hq2] at g1
      refine Tot.bind1 g1 ?_
      have hseq := good_seq L1 (List.replicate 3 0) 0 hk1.hg bd0 hq1
      have h5 : L1.length ≤ 5 := by
        refine Nat.le_of_not_lt fun h => ?_
        have h1 := hseq 5 L1[5] (List.getElem?_eq_getElem h)
        have h2 := (hk1.qL L1[5] (List.getElem_mem _)).2.1
        have h3 : rd (List.replicate 3 0) 1 = 0 := rfl
        omega
      refine Tot.one ?_ rfl
      refine same_ev (fun k i => laws_FnKeeps.l1 k l L1 N1 E1 a1 A1 (L1.map (fun e => e.f2)) i) L1 ?_ ?_
      · exact fin_ev l hl0 L1 N1 E1 a1 A1 h5 hq1
      · intro i x hx h
        have hi := lt_of hx
        have hm : (L1.map (fun e => e.f2))[i]? = some x.f2 := by rw [List.getElem?_map, hx]; rfl
        have h1 := hseq i x hx
        have h2 := (hk1.qL x (List.mem_of_getElem? hx)).2.2
        have h3 : rd (List.replicate 3 0) 1 = 0 := rfl
        refine Ev.step (fun _ => rfl) ?_
        simp only [laws_FnKeeps.l1]
        rw [rd34 hm, w64 (x := (i : Int) + 1) (by omega) (by omega)]
        exact Ev.pos (by rw [List.length_map]; omega) (Ev.pos (by omega) (Ev.pos (by omega) h))
  obtain ⟨r, hr, rfl⟩ := main
  exact hr
end Go.Proofs.Ytfeaemlakniijaa.PFnKeeps
namespace Go.Proofs.Ytfeaemlakniijaa
/-- The given statement. -/
theorem fnKeeps_holds : Rows.FnKeepsSaid := AFnKeeps.row PFnKeeps.pure
#print axioms fnKeeps_holds
end Go.Proofs.Ytfeaemlakniijaa
