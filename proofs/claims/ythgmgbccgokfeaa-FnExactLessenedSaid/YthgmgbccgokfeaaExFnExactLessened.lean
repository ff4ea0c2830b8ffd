/- What the plain helpers of laws.FnExactLessened come to: copies, equals, sizes. Conditions: the lengths and numbers that each theorem names. -/
import Derived.Test.YthgmgbccgokfeaaArgFnExactLessened
import Derived.Test.YthgmgbccgokfeaaLib
set_option linter.unusedVariables false
set_option linter.unusedSimpArgs false
namespace Go.Proofs.Ythgmgbccgokfeaa.PFnExactLessened
open Go Go.RowKit Go.Proofs.YthgmgbccgokfeaaA Go.Proofs.YthgmgbccgokfeaaL Go.Proofs.Ythgmgbccgokfeaa.AFnExactLessened
theorem lt_of {α : Type} {l : List α} {i : Nat} {x : α} (h : l[i]? = some x) : i < l.length := (List.getElem?_eq_some_iff.1 h).1
def FitL {α : Type} (p : α → Prop) (l : List α) : Prop := l.length ≤ 1048576 ∧ ∀ x ∈ l, p x
def FitA {α : Type} (_ : α) : Prop := True
def FitS (s : ByteArray) : Prop := s.size ≤ 1048576
theorem szl_ev {α : Type} (L : Nat → Int → Int → Option Int) (xs : List α) (ok : α → Prop) (stop : ∀ a, Ev (fun k => L k a (xs.length : Int)) a)
    (step : ∀ (i : Nat) x a, xs[i]? = some x → 0 ≤ a → a ≤ 1048576 → ∃ v, (v < 0 ∧ Ev (fun k => L k a (i : Int)) (-1)) ∨ (0 ≤ v ∧ v ≤ a ∧ ok x ∧ ∀ r, Ev (fun k => L k v ((i : Int) + 1)) r → Ev (fun k => L k a (i : Int)) r)) :
    ∀ a, 0 ≤ a → a ≤ 1048576 → ∃ v, Ev (fun k => L k a 0) v ∧ (v < 0 ∨ (0 ≤ v ∧ v ≤ a ∧ ∀ x ∈ xs, ok x)) := by
  have key : ∀ (d i : Nat) (a : Int), xs.length - i = d → i ≤ xs.length → 0 ≤ a → a ≤ 1048576 → ∃ v, Ev (fun k => L k a (i : Int)) v ∧ (v < 0 ∨ (0 ≤ v ∧ v ≤ a ∧ ∀ x ∈ xs.drop i, ok x)) := by
    intro d
    induction d with
    | zero =>
      intro i a hd hi h0 h1
      have : i = xs.length := by omega
      subst this
      exact ⟨a, stop a, .inr ⟨h0, Int.le_refl _, fun x hx => by simp at hx⟩⟩
    | succ d ih =>
      intro i a hd hi h0 h1
      have hlt : i < xs.length := by omega
      obtain ⟨v, h | ⟨hv0, hv1, hok, h⟩⟩ := step i _ a (List.getElem?_eq_getElem hlt) h0 h1
      · exact ⟨-1, h.2, .inl (by omega)⟩
      · obtain ⟨u, hu, hr⟩ := ih (i + 1) v (by omega) (by omega) hv0 (by omega)
        refine ⟨u, h u (by simpa using hu), ?_⟩
        rcases hr with hr | ⟨r0, r1, r2⟩
        · exact .inl hr
        · refine .inr ⟨r0, by omega, fun x hx => ?_⟩
          rw [List.drop_eq_getElem_cons hlt] at hx
          rcases List.mem_cons.1 hx with rfl | hx
          · exact hok
          · exact r2 x hx
  intro a h0 h1
  obtain ⟨v, h, r⟩ := key xs.length 0 a rfl (Nat.zero_le _) h0 h1
  exact ⟨v, h, by simpa using r⟩
theorem szIntS_ev (l0 : List Int) (a1 : Int) (hl0 : (OkL (OkN .i64)) l0) (h0 : 0 ≤ a1) (h1 : a1 ≤ 1048576) : ∃ v, laws_szIntS.f l0 a1 = some v ∧ (v < 0 ∨ (0 ≤ v ∧ v ≤ a1 ∧ (FitL FitA) l0)) := by
  have hl := hl0.1
  unfold laws_szIntS.f
  rw [w64 (by omega) (by omega)]
  by_cases h : a1 - (l0.length : Int) < 0
  · rw [if_pos h]; exact ⟨_, rfl, .inl (by omega)⟩
  · rw [if_neg h]; exact ⟨_, rfl, .inr ⟨by omega, by omega, by omega, fun x _ => trivial⟩⟩
theorem szCondS_ev (l0 : List S117) (a1 : Int) (hl0 : (OkL Ok117) l0) (h0 : 0 ≤ a1) (h1 : a1 ≤ 1048576) : ∃ v, laws_szCondS.f l0 a1 = some v ∧ (v < 0 ∨ (0 ≤ v ∧ v ≤ a1 ∧ (FitL FitA) l0)) := by
  have hl := hl0.1
  unfold laws_szCondS.f
  rw [w64 (by omega) (by omega)]
  by_cases h : a1 - (l0.length : Int) < 0
  · rw [if_pos h]; exact ⟨_, rfl, .inl (by omega)⟩
  · rw [if_neg h]; exact ⟨_, rfl, .inr ⟨by omega, by omega, by omega, fun x _ => trivial⟩⟩
theorem szRule_ev (l0_0 : List Int) (l0_1 : List S117) (a0_2 : Int) (a0_3 : Int) (a1 : Int) (hl0_0 : (OkL (OkN .i64)) l0_0) (hl0_1 : (OkL Ok117) l0_1) (h0 : 0 ≤ a1) (h1 : a1 ≤ 1048576) : ∃ v, laws_szRule.f l0_0 l0_1 a0_2 a0_3 a1 = some v ∧ (v < 0 ∨ (0 ≤ v ∧ v ≤ a1 ∧ (FitL FitA) l0_0 ∧ (FitL FitA) l0_1)) := by
  unfold laws_szRule.f
  obtain ⟨v1, e1, q1⟩ := szIntS_ev l0_0 a1 hl0_0 (by omega) (by omega)
  rw [e1]; simp only [Option.bind_some]
  rcases q1 with q1 | q1
  · rw [if_pos q1]; exact ⟨_, rfl, .inl (by omega)⟩
  rw [if_neg (by omega)]
  obtain ⟨v2, e2, q2⟩ := szCondS_ev l0_1 v1 hl0_1 (by omega) (by omega)
  rw [e2]; simp only [Option.bind_some]
  rcases q2 with q2 | q2
  · rw [if_pos q2]; exact ⟨_, rfl, .inl (by omega)⟩
  rw [if_neg (by omega)]
  exact ⟨_, rfl, .inr ⟨by omega, by omega, q1.2.2, q2.2.2⟩⟩
theorem rd86 {l : List S86} {i : Nat} {x : S86} (h : l[i]? = some x) : rd_T86 l (i : Int) = x := by
  unfold rd_T86; simpa using get_of l z86 h
def Fit86 (x : S86) : Prop := (FitL FitA) x.f0 ∧ (FitL FitA) x.f1
theorem szRuleS_ev (l : List S86) (a : Int) (h : OkL Ok86 l) (h0 : 0 ≤ a) (h1 : a ≤ 1048576) : ∃ v, Ev (fun k => laws_szRuleS.f k l a) v ∧ (v < 0 ∨ (0 ≤ v ∧ v ≤ a ∧ FitL Fit86 l)) := by
  have hl := h.1
  unfold laws_szRuleS.f
  rw [w64 (by omega) (by omega)]
  by_cases hn : a - (l.length : Int) < 0
  · exact ⟨-1, Ev.pos hn (Ev.now _), .inl (by omega)⟩
  have key := szl_ev (fun k b i => laws_szRuleS.l0 k l b i) l Fit86 ?_ ?_ (a - (l.length : Int)) (by omega) (by omega)
  · obtain ⟨v, hv, hr⟩ := key
    refine ⟨v, Ev.neg hn hv, ?_⟩
    rcases hr with hr | ⟨r0, r1, r2⟩
    · exact .inl hr
    · exact .inr ⟨r0, by omega, by omega, r2⟩
  · intro b
    refine Ev.step (fun _ => rfl) ?_
    simp only [laws_szRuleS.l0]; exact Ev.neg (by omega) (Ev.now _)
  · intro i x b hx b0 b1
    have hi := lt_of hx
    have hf := h.2 x (List.mem_of_getElem? hx)
    obtain ⟨o0, o1, o2, o3⟩ := hf
    obtain ⟨v, hv, hr⟩ := szRule_ev x.f0 x.f1 x.f2 x.f3 b o0 o1 b0 b1
    refine ⟨v, ?_⟩
    rcases hr with hr | ⟨r0, r1, r2⟩
    · refine .inl ⟨hr, Ev.step (fun _ => rfl) ?_⟩
      simp only [laws_szRuleS.l0]
      rw [rd86 hx]
      exact Ev.pos (by omega) (Ev.pos (by omega) (Ev.bindc hv (Ev.pos hr (Ev.now _))))
    · refine .inr ⟨r0, r1, r2, fun r hh => Ev.step (fun _ => rfl) ?_⟩
      simp only [laws_szRuleS.l0]
      rw [rd86 hx, w64 (x := (i : Int) + 1) (by omega) (by omega)]
      exact Ev.pos (by omega) (Ev.pos (by omega) (Ev.bindc hv (Ev.neg (by omega) hh)))
theorem szPolicy_ev (a0_0 : Int) (a0_1 : Int) (a0_2 : Int) (l0_3 : List S86) (a1 : Int) (hl0_3 : (OkL Ok86) l0_3) (h0 : 0 ≤ a1) (h1 : a1 ≤ 1048576) : ∃ v, Ev (fun k => laws_szPolicy.f k a0_0 a0_1 a0_2 l0_3 a1) v ∧ (v < 0 ∨ (0 ≤ v ∧ v ≤ a1 ∧ (FitL Fit86) l0_3)) := by
  unfold laws_szPolicy.f
  obtain ⟨v1, e1, q1⟩ := szRuleS_ev l0_3 a1 hl0_3 (by omega) (by omega)
  rcases q1 with q1 | q1
  · exact ⟨-1, Ev.bind e1 (Ev.pos q1 (Ev.now _)), .inl (by omega)⟩
  exact ⟨v1, Ev.bind e1 (Ev.neg (by omega) (Ev.now _)), .inr ⟨by omega, by omega, q1.2.2⟩⟩
theorem rdInt {l : List Int} {i : Nat} {x : Int} (h : l[i]? = some x) : rd l (i : Int) = x := by
  unfold rd; simpa using get_of l 0 h
theorem toIntS_ev (l : List Int) (h : FitL FitA l) : Ev (fun k => laws_toIntS.f k l) (l) := by
  unfold laws_toIntS.f
  have hl := h.1
  refine Ev.eq (List.map_id' l) ?_
  refine Ev.pos (by omega) (Ev.pos (by omega) ?_)
  rw [Int.toNat_natCast]
  refine copy_ev (fun k out i => laws_toIntS.l0 k l out i) l (fun x : Int => x) (0 : Int) ?_ ?_
  · intro out
    refine Ev.step (fun _ => rfl) ?_
    simp only [laws_toIntS.l0]; exact Ev.neg (by omega) (Ev.now _)
  · intro i x out r hx ho hh
    have hi := lt_of hx
    have hf := h.2 x (List.mem_of_getElem? hx)
    refine Ev.step (fun _ => rfl) ?_
    simp only [laws_toIntS.l0]
    rw [rdInt hx, w64 (x := (i : Int) + 1) (by omega) (by omega), Int.toNat_natCast]
    refine Ev.pos (by omega) (Ev.pos (by omega) ?_)
    first
      | exact Ev.pos (by omega) hh
      | exact hh
theorem toWide_ev (a0_0 : Int) (a0_1 : Int) : laws_toWide.f a0_0 a0_1 = some (a0_0, a0_1) := rfl
theorem toCond_ev (a0_0 : Int) (a0_1 : Int) (a0_2 : Int) (a0_3 : Int) (a0_4 : Int) (a0_5 : Int) : laws_toCond.f a0_0 a0_1 a0_2 a0_3 a0_4 a0_5 = some (a0_0, a0_1, a0_2, a0_3, a0_4, a0_5) := rfl
theorem rd117 {l : List S117} {i : Nat} {x : S117} (h : l[i]? = some x) : rd_T117 l (i : Int) = x := by
  unfold rd_T117; simpa using get_of l z117 h
def cvS115_S90 (x : S115) : S90 := ⟨x.f0, x.f1⟩
def cvS117_S92 (x : S117) : S92 := ⟨x.f0, cvS115_S90 x.f1, x.f2, cvS115_S90 x.f3⟩
theorem toCondS_ev (l : List S117) (h : FitL FitA l) : Ev (fun k => laws_toCondS.f k l) (l.map cvS117_S92) := by
  unfold laws_toCondS.f
  have hl := h.1
  refine Ev.pos (by omega) (Ev.pos (by omega) ?_)
  rw [Int.toNat_natCast]
  refine copy_ev (fun k out i => laws_toCondS.l0 k l out i) l cvS117_S92 z92 ?_ ?_
  · intro out
    refine Ev.step (fun _ => rfl) ?_
    simp only [laws_toCondS.l0]; exact Ev.neg (by omega) (Ev.now _)
  · intro i x out r hx ho hh
    have hi := lt_of hx
    have hf := h.2 x (List.mem_of_getElem? hx)
    refine Ev.step (fun _ => rfl) ?_
    simp only [laws_toCondS.l0]
    rw [rd117 hx, w64 (x := (i : Int) + 1) (by omega) (by omega), Int.toNat_natCast]
    refine Ev.pos (by omega) (Ev.pos (by omega) ?_)
    refine Ev.bindc (toCond_ev x.f0 x.f1.f0 x.f1.f1 x.f2 x.f3.f0 x.f3.f1 ) ?_
    first
      | exact Ev.pos (by omega) hh
      | exact hh
theorem toRule_ev (l0_0 : List Int) (l0_1 : List S117) (a0_2 : Int) (a0_3 : Int) (hl0_0 : (FitL FitA) l0_0) (hl0_1 : (FitL FitA) l0_1) : Ev (fun k => laws_toRule.f k l0_0 l0_1 a0_2 a0_3) (l0_0, l0_1.map cvS117_S92, a0_2, a0_3) := by
  unfold laws_toRule.f
  repeat (first | (refine Ev.bind (toCondS_ev _ (by assumption)) ?_; try dsimp only) | (refine Ev.bind (toIntS_ev _ (by assumption)) ?_; try dsimp only))
  exact Ev.now _
def cvS86_S60 (x : S86) : S60 := ⟨x.f0, (List.map cvS117_S92) x.f1, x.f2, x.f3⟩
theorem toRuleS_ev (l : List S86) (h : FitL Fit86 l) : Ev (fun k => laws_toRuleS.f k l) (l.map cvS86_S60) := by
  unfold laws_toRuleS.f
  have hl := h.1
  refine Ev.pos (by omega) (Ev.pos (by omega) ?_)
  rw [Int.toNat_natCast]
  refine copy_ev (fun k out i => laws_toRuleS.l0 k l out i) l cvS86_S60 z60 ?_ ?_
  · intro out
    refine Ev.step (fun _ => rfl) ?_
    simp only [laws_toRuleS.l0]; exact Ev.neg (by omega) (Ev.now _)
  · intro i x out r hx ho hh
    have hi := lt_of hx
    have hf := h.2 x (List.mem_of_getElem? hx)
    refine Ev.step (fun _ => rfl) ?_
    simp only [laws_toRuleS.l0]
    rw [rd86 hx, w64 (x := (i : Int) + 1) (by omega) (by omega), Int.toNat_natCast]
    refine Ev.pos (by omega) (Ev.pos (by omega) ?_)
    refine Ev.bind (toRule_ev x.f0 x.f1 x.f2 x.f3 (by first | exact hf | exact hf.1 | exact hf.2 | exact hf.2.1 | exact hf.1.1) (by first | exact hf | exact hf.1 | exact hf.2 | exact hf.2.1 | exact hf.1.1)) ?_
    first
      | exact Ev.pos (by omega) hh
      | exact hh
theorem toPolicy_ev (a0_0 : Int) (a0_1 : Int) (a0_2 : Int) (l0_3 : List S86) (hl0_3 : (FitL Fit86) l0_3) : Ev (fun k => laws_toPolicy.f k a0_0 a0_1 a0_2 l0_3) (a0_0, a0_1, a0_2, l0_3.map cvS86_S60) := by
  unfold laws_toPolicy.f
  repeat (first | (refine Ev.bind (toRuleS_ev _ (by assumption)) ?_; try dsimp only))
  exact Ev.now _
theorem eqIntS_ev (l : List Int) (h : FitL FitA l) : Ev (fun k => laws_eqIntS.f k l l) true := by
  unfold laws_eqIntS.f
  have hl := h.1
  refine Ev.pos rfl ?_
  refine same_ev (fun k i => laws_eqIntS.l0 k l l i) l ?_ ?_
  · refine Ev.step (fun _ => rfl) ?_
    simp only [laws_eqIntS.l0]; exact Ev.neg (by omega) (Ev.now _)
  · intro i x hx hh
    have hi := lt_of hx
    have hf := h.2 x (List.mem_of_getElem? hx)
    refine Ev.step (fun _ => rfl) ?_
    simp only [laws_eqIntS.l0]
    try rw [rdInt hx]
    rw [w64 (x := (i : Int) + 1) (by omega) (by omega)]
    refine Ev.pos (by omega) (Ev.pos (by omega) (Ev.pos (by omega) ?_))
    
    first
      | exact Ev.pos rfl hh
      | exact Ev.pos (by simp) hh
      | exact Ev.neg (by simp) hh
theorem eqWide_ev (a0_0 : Int) (a0_1 : Int) : laws_eqWide.f a0_0 a0_1 a0_0 a0_1 = some true := by simp [laws_eqWide.f]
theorem eqCond_ev (a0_0 : Int) (a0_1 : Int) (a0_2 : Int) (a0_3 : Int) (a0_4 : Int) (a0_5 : Int) : laws_eqCond.f a0_0 a0_1 a0_2 a0_3 a0_4 a0_5 a0_0 a0_1 a0_2 a0_3 a0_4 a0_5 = some true := by simp [laws_eqCond.f, laws_eqWide.f]
theorem rd92 {l : List S92} {i : Nat} {x : S92} (h : l[i]? = some x) : rd_T92 l (i : Int) = x := by
  unfold rd_T92; simpa using get_of l z92 h
theorem eqCondS_ev (l : List S92) (h : FitL FitA l) : Ev (fun k => laws_eqCondS.f k l l) true := by
  unfold laws_eqCondS.f
  have hl := h.1
  refine Ev.pos rfl ?_
  refine same_ev (fun k i => laws_eqCondS.l0 k l l i) l ?_ ?_
  · refine Ev.step (fun _ => rfl) ?_
    simp only [laws_eqCondS.l0]; exact Ev.neg (by omega) (Ev.now _)
  · intro i x hx hh
    have hi := lt_of hx
    have hf := h.2 x (List.mem_of_getElem? hx)
    refine Ev.step (fun _ => rfl) ?_
    simp only [laws_eqCondS.l0]
    try rw [rd92 hx]
    rw [w64 (x := (i : Int) + 1) (by omega) (by omega)]
    refine Ev.pos (by omega) (Ev.pos (by omega) (Ev.pos (by omega) ?_))
    refine Ev.bindc (eqCond_ev x.f0 x.f1.f0 x.f1.f1 x.f2 x.f3.f0 x.f3.f1 ) ?_
    first
      | exact Ev.pos rfl hh
      | exact Ev.pos (by simp) hh
      | exact Ev.neg (by simp) hh
theorem eqRule_ev (l0_0 : List Int) (l0_1 : List S92) (a0_2 : Int) (a0_3 : Int) (hl0_0 : (FitL FitA) l0_0) (hl0_1 : (FitL FitA) l0_1) : Ev (fun k => laws_eqRule.f k l0_0 l0_1 a0_2 a0_3 l0_0 l0_1 a0_2 a0_3) true := by
  unfold laws_eqRule.f
  repeat (first | refine Ev.pos rfl ?_ | refine Ev.neg (by simp) ?_ | refine Ev.pos (by simp) ?_ | (refine Ev.bind (eqCondS_ev _ (by assumption)) ?_; try dsimp only) | (refine Ev.bind (eqIntS_ev _ (by assumption)) ?_; try dsimp only))
  exact Ev.now _
theorem rd60 {l : List S60} {i : Nat} {x : S60} (h : l[i]? = some x) : rd_T60 l (i : Int) = x := by
  unfold rd_T60; simpa using get_of l z60 h
def Fit60 (x : S60) : Prop := (FitL FitA) x.f0 ∧ (FitL FitA) x.f1
theorem eqRuleS_ev (l : List S60) (h : FitL Fit60 l) : Ev (fun k => laws_eqRuleS.f k l l) true := by
  unfold laws_eqRuleS.f
  have hl := h.1
  refine Ev.pos rfl ?_
  refine same_ev (fun k i => laws_eqRuleS.l0 k l l i) l ?_ ?_
  · refine Ev.step (fun _ => rfl) ?_
    simp only [laws_eqRuleS.l0]; exact Ev.neg (by omega) (Ev.now _)
  · intro i x hx hh
    have hi := lt_of hx
    have hf := h.2 x (List.mem_of_getElem? hx)
    refine Ev.step (fun _ => rfl) ?_
    simp only [laws_eqRuleS.l0]
    try rw [rd60 hx]
    rw [w64 (x := (i : Int) + 1) (by omega) (by omega)]
    refine Ev.pos (by omega) (Ev.pos (by omega) (Ev.pos (by omega) ?_))
    refine Ev.bind (eqRule_ev x.f0 x.f1 x.f2 x.f3 (by first | exact hf | exact hf.1 | exact hf.2 | exact hf.2.1 | exact hf.1.1) (by first | exact hf | exact hf.1 | exact hf.2 | exact hf.2.1 | exact hf.1.1)) ?_
    first
      | exact Ev.pos rfl hh
      | exact Ev.pos (by simp) hh
      | exact Ev.neg (by simp) hh
theorem eqPolicy_ev (a0_0 : Int) (a0_1 : Int) (a0_2 : Int) (l0_3 : List S60) (hl0_3 : (FitL Fit60) l0_3) : Ev (fun k => laws_eqPolicy.f k a0_0 a0_1 a0_2 l0_3 a0_0 a0_1 a0_2 l0_3) true := by
  unfold laws_eqPolicy.f
  repeat (first | refine Ev.pos rfl ?_ | refine Ev.neg (by simp) ?_ | refine Ev.pos (by simp) ?_ | (refine Ev.bind (eqRuleS_ev _ (by assumption)) ?_; try dsimp only))
  exact Ev.now _
theorem mc_le {α : Type} {ct : α → Nat} {c : Nat} {p : α → Prop} {l : List α} (h : FitL p l) (hc : ∀ x, p x → ct x ≤ c) : mcount ct l ≤ 1048576 * c := by
  have key : ∀ l : List α, (∀ x ∈ l, p x) → mcount ct l ≤ l.length * c := by
    intro l
    induction l with
    | nil => intro _; simp [mcount]
    | cons x l ih =>
      intro h
      have h1 := hc x (h x List.mem_cons_self)
      have h2 := ih (fun y hy => h y (List.mem_cons_of_mem _ hy))
      rw [List.length_cons, Nat.succ_mul]
      show ct x + mcount ct l ≤ _
      omega
  exact Nat.le_trans (key l h.2) (Nat.mul_le_mul_right c h.1)
theorem marked_evF {α : Type} (L : Nat → List α → Int → Int → Option (Int × List α)) (me : α → Int → α) (ct : α → Nat) (B : Int) (xs : List α) (a : Int) (ha : 0 ≤ a) (hB : a + mcount ct xs ≤ B)
    (stop : ∀ ys a, ys.length = xs.length → Ev (fun k => L k ys a (xs.length : Int)) (a, ys))
    (step : ∀ (i : Nat) x ys a r, ys.length = xs.length → ys[i]? = some x → x ∈ xs → 0 ≤ a → a + ct x ≤ B → Ev (fun k => L k (ys.set i (me x a)) (a + ct x) ((i : Int) + 1)) r → Ev (fun k => L k ys a (i : Int)) r) :
    Ev (fun k => L k xs a 0) (a + mcount ct xs, marks me ct xs a) := by
  have key : ∀ (post pre : List α) (a : Int), (pre ++ post).length = xs.length → (∀ x ∈ post, x ∈ xs) → 0 ≤ a → a + mcount ct post ≤ B → Ev (fun k => L k (pre ++ post) a (pre.length : Int)) (a + mcount ct post, pre ++ marks me ct post a) := by
    intro post
    induction post with
    | nil =>
      intro pre a hn hm ha hB
      have := stop (pre ++ []) a hn
      rw [show (pre.length : Int) = (xs.length : Int) by rw [← hn]; simp]
      simpa [mcount, marks] using this
    | cons x post ih =>
      intro pre a hn hmm ha hB
      have hm : (mcount ct (x :: post) : Int) = ct x + mcount ct post := by simp [mcount]
      refine step pre.length x (pre ++ x :: post) a _ hn (by simp) (hmm x List.mem_cons_self) ha (by omega) ?_
      have := ih (pre ++ [me x a]) (a + ct x) (by simpa using hn) (fun y hy => hmm y (List.mem_cons_of_mem _ hy)) (by omega) (by omega)
      simp only [List.length_append, List.length_cons, List.length_nil, List.append_assoc, List.cons_append, List.nil_append, Int.natCast_add, Int.natCast_one, Nat.zero_add] at this
      have h2 : (a + mcount ct (x :: post), pre ++ marks me ct (x :: post) a) = (a + ↑(ct x) + ↑(mcount ct post), pre ++ me x a :: marks me ct post (a + ↑(ct x))) := by
        simp [hm, marks]; omega
      rw [h2]
      simpa using this
  have := key xs [] a (by simp) (fun _ h => h) ha hB
  simpa using this
theorem held_evF {α : Type} (L : Nat → Int → Int → Option Int) (me : α → Int → α) (ct : α → Nat) (B : Int) (xs : List α) (a0 : Int) (ha : 0 ≤ a0) (hB : a0 + mcount ct xs ≤ B)
    (stop : ∀ a, Ev (fun k => L k a (xs.length : Int)) a)
    (step : ∀ (i : Nat) x a r, xs[i]? = some x → (marks me ct xs a0)[i]? = some (me x a) → x ∈ xs → 0 ≤ a → a + ct x ≤ B → Ev (fun k => L k (a + ct x) ((i : Int) + 1)) r → Ev (fun k => L k a (i : Int)) r) :
    Ev (fun k => L k a0 0) (a0 + mcount ct xs) :=
  held_ev L me ct B xs a0 ha hB stop (fun i x a r hx hm h0 h1 h => step i x a r hx hm (List.mem_of_getElem? hx) h0 h1 h)
def mkInt (_ : Int) (a : Int) : Int := a
def ctInt (_ : Int) : Nat := 1
theorem ctInt_le (x : Int) (_ : FitA x) : ctInt x ≤ 1 := Nat.le_refl _
theorem markIntS_ev (l : List Int) (a : Int) (h : FitL FitA l) (ha : 0 ≤ a) (hB : a + mcount ctInt l ≤ 9223372036854000000) : Ev (fun k => laws_markIntS.f k l a) (a + mcount ctInt l, marks mkInt ctInt l a) := by
  unfold laws_markIntS.f
  have hl := h.1
  refine marked_evF (fun k xs a i => laws_markIntS.l0 k xs a i) mkInt ctInt 9223372036854000000 l a ha hB ?_ ?_
  · intro ys a hy
    refine Ev.step (f := fun _ => some (a, ys)) (fun k => ?_) (Ev.now _)
    simp only [laws_markIntS.l0]; rw [if_neg (by omega)]
  · intro i x ys a r hy hx hm h0 hB hh
    have hi := lt_of hx
    have hf := h.2 x hm
    refine Ev.step (fun _ => rfl) ?_
    simp only [laws_markIntS.l0]
    (try simp only [rdInt hx])
    have hct : ((ctInt x : Nat) : Int) = 1 := by simp only [ctInt]; omega
    rw [hct] at hB
    refine Ev.pos (by omega) (Ev.pos (by omega) ?_)
    (try simp only [Int.toNat_natCast])
    (try simp (disch := omega) only [Go.Proofs.YthgmgbccgokfeaaL.w64])
    rw [hct] at hh
    first
      | exact hh
      | (refine Ev.congr (fun k => ?_) hh; congr 1 <;> omega)
def mkS92 (x : S92) (a : Int) : S92 := ⟨a, ⟨a + 1, a + 1 + 1⟩, a + 1 + 1 + 1, ⟨a + 1 + 1 + 1 + 1, a + 1 + 1 + 1 + 1 + 1⟩⟩
def ctS92 (x : S92) : Nat := 0 + 1 + 1 + 1 + 1 + 1 + 1
theorem ctS92_le (x : S92) (h : FitA x) : ctS92 x ≤ 6 := by
  skip
  simp only [ctS92]; omega
theorem markCondS_ev (l : List S92) (a : Int) (h : FitL FitA l) (ha : 0 ≤ a) (hB : a + mcount ctS92 l ≤ 9223372036854000000) : Ev (fun k => laws_markCondS.f k l a) (a + mcount ctS92 l, marks mkS92 ctS92 l a) := by
  unfold laws_markCondS.f
  have hl := h.1
  refine marked_evF (fun k xs a i => laws_markCondS.l0 k xs a i) mkS92 ctS92 9223372036854000000 l a ha hB ?_ ?_
  · intro ys a hy
    refine Ev.step (f := fun _ => some (a, ys)) (fun k => ?_) (Ev.now _)
    simp only [laws_markCondS.l0]; rw [if_neg (by omega)]
  · intro i x ys a r hy hx hm h0 hB hh
    have hi := lt_of hx
    have hf := h.2 x hm
    refine Ev.step (fun _ => rfl) ?_
    simp only [laws_markCondS.l0]
    (try simp only [rd92 hx])
    have hct : ((ctS92 x : Nat) : Int) = 0 + 1 + 1 + 1 + 1 + 1 + 1 := by simp only [ctS92]; omega
    rw [hct] at hB
    refine Ev.pos (by omega) (Ev.pos (by omega) ?_)
    (try simp only [Int.toNat_natCast])
    (try simp (disch := omega) only [Go.Proofs.YthgmgbccgokfeaaL.w64])
    rw [hct] at hh
    first
      | exact hh
      | (refine Ev.congr (fun k => ?_) hh; congr 1 <;> omega)
def mkLInt (x : List Int) (a : Int) : List Int := marks mkInt ctInt x a
def ctLInt (x : List Int) : Nat := mcount ctInt x
theorem ctLInt_le (x : List Int) (h : (FitL FitA) x) : ctLInt x ≤ 1048576 := mc_le (by exact h) (fun y hy => ctInt_le y hy)
def mkLS92 (x : List S92) (a : Int) : List S92 := marks mkS92 ctS92 x a
def ctLS92 (x : List S92) : Nat := mcount ctS92 x
theorem ctLS92_le (x : List S92) (h : (FitL FitA) x) : ctLS92 x ≤ 6291456 := mc_le (by exact h) (fun y hy => ctS92_le y hy)
def mkS60 (x : S60) (a : Int) : S60 := ⟨marks mkInt ctInt x.f0 (a), marks mkS92 ctS92 x.f1 (a + (mcount ctInt x.f0 : Int)), a + (mcount ctInt x.f0 : Int) + (mcount ctS92 x.f1 : Int), a + (mcount ctInt x.f0 : Int) + (mcount ctS92 x.f1 : Int) + 1⟩
def ctS60 (x : S60) : Nat := 0 + mcount ctInt x.f0 + mcount ctS92 x.f1 + 1 + 1
theorem ctS60_le (x : S60) (h : Fit60 x) : ctS60 x ≤ 7340034 := by
  have q0 : mcount ctInt x.f0 ≤ 1048576 := ctLInt_le x.f0 (by first | exact h.1 | exact h)
  have q1 : mcount ctS92 x.f1 ≤ 6291456 := ctLS92_le x.f1 (by first | exact h.2 | exact h)
  simp only [ctS60]; omega
theorem markRuleS_ev (l : List S60) (a : Int) (h : FitL Fit60 l) (ha : 0 ≤ a) (hB : a + mcount ctS60 l ≤ 9223372036854000000) : Ev (fun k => laws_markRuleS.f k l a) (a + mcount ctS60 l, marks mkS60 ctS60 l a) := by
  unfold laws_markRuleS.f
  have hl := h.1
  refine marked_evF (fun k xs a i => laws_markRuleS.l0 k xs a i) mkS60 ctS60 9223372036854000000 l a ha hB ?_ ?_
  · intro ys a hy
    refine Ev.step (f := fun _ => some (a, ys)) (fun k => ?_) (Ev.now _)
    simp only [laws_markRuleS.l0]; rw [if_neg (by omega)]
  · intro i x ys a r hy hx hm h0 hB hh
    have hi := lt_of hx
    have hf := h.2 x hm
    refine Ev.step (fun _ => rfl) ?_
    simp only [laws_markRuleS.l0]
    (try simp only [rd60 hx])
    have hct : ((ctS60 x : Nat) : Int) = 0 + (mcount ctInt x.f0 : Int) + (mcount ctS92 x.f1 : Int) + 1 + 1 := by simp only [ctS60]; omega
    rw [hct] at hB
    refine Ev.pos (by omega) (Ev.pos (by omega) ?_)
    (try simp only [Int.toNat_natCast])
    (try simp (disch := omega) only [Go.Proofs.YthgmgbccgokfeaaL.w64])
    refine Ev.bind (markIntS_ev x.f0 (a) hf.1 (by omega) (by omega)) ?_; try dsimp only
    (try simp (disch := omega) only [Go.Proofs.YthgmgbccgokfeaaL.w64])
    refine Ev.bind (markCondS_ev x.f1 (a + (mcount ctInt x.f0 : Int)) hf.2 (by omega) (by omega)) ?_; try dsimp only
    (try simp (disch := omega) only [Go.Proofs.YthgmgbccgokfeaaL.w64])
    rw [hct] at hh
    first
      | exact hh
      | (refine Ev.congr (fun k => ?_) hh; congr 1 <;> omega)
theorem markPolicy_ev (a0_0 : Int) (a0_1 : Int) (a0_2 : Int) (l0_3 : List S60) (a1 : Int) (hl0_3 : (FitL Fit60) l0_3) (h0 : 0 ≤ a1) (hB : a1 + (mcount ctS60 l0_3 : Int) ≤ 9223372036854000000) : Ev (fun k => laws_markPolicy.f k a0_0 a0_1 a0_2 l0_3 a1) ((a1 + (mcount ctS60 l0_3 : Int), marks mkS60 ctS60 l0_3 (a1))) := by
  unfold laws_markPolicy.f
  refine Ev.bind (markRuleS_ev l0_3 (a1) hl0_3 (by omega) (by omega)) ?_; try dsimp only
  exact Ev.now _
theorem heldIntS_ev (l : List Int) (a : Int) (h : FitL FitA l) (ha : 0 ≤ a) (hB : a + mcount ctInt l ≤ 9223372036854000000) : Ev (fun k => laws_heldIntS.f k (marks mkInt ctInt l a) a) (a + mcount ctInt l) := by
  unfold laws_heldIntS.f
  have hl := h.1
  refine held_evF (fun k b i => laws_heldIntS.l0 k (marks mkInt ctInt l a) b i) mkInt ctInt 9223372036854000000 l a ha hB ?_ ?_
  · intro b
    refine Ev.step (f := fun _ => some b) (fun k => ?_) (Ev.now _)
    simp only [laws_heldIntS.l0]; rw [if_neg (by rw [marks_length]; omega)]
  · intro i x b r hx hm hmm h0 hB hh
    have hi := lt_of hx
    have hf := h.2 x hmm
    refine Ev.step (fun _ => rfl) ?_
    simp only [laws_heldIntS.l0]
    (try simp only [rdInt hm])
    have hct : ((ctInt x : Nat) : Int) = 1 := by simp only [ctInt]; omega
    rw [hct] at hB
    refine Ev.pos (by rw [marks_length]; omega) (Ev.pos (by omega) ?_)
    (try simp (disch := omega) only [Go.Proofs.YthgmgbccgokfeaaL.w64])
    repeat (first | refine Ev.pos rfl ?_ | refine Ev.pos (by simp [mkInt]) ?_ | refine Ev.neg (by omega) ?_)
    rw [hct] at hh
    first
      | exact hh
      | (refine Ev.congr (fun k => ?_) hh; congr 1 <;> omega)
theorem heldCondS_ev (l : List S92) (a : Int) (h : FitL FitA l) (ha : 0 ≤ a) (hB : a + mcount ctS92 l ≤ 9223372036854000000) : Ev (fun k => laws_heldCondS.f k (marks mkS92 ctS92 l a) a) (a + mcount ctS92 l) := by
  unfold laws_heldCondS.f
  have hl := h.1
  refine held_evF (fun k b i => laws_heldCondS.l0 k (marks mkS92 ctS92 l a) b i) mkS92 ctS92 9223372036854000000 l a ha hB ?_ ?_
  · intro b
    refine Ev.step (f := fun _ => some b) (fun k => ?_) (Ev.now _)
    simp only [laws_heldCondS.l0]; rw [if_neg (by rw [marks_length]; omega)]
  · intro i x b r hx hm hmm h0 hB hh
    have hi := lt_of hx
    have hf := h.2 x hmm
    refine Ev.step (fun _ => rfl) ?_
    simp only [laws_heldCondS.l0]
    (try simp only [rd92 hm])
    have hct : ((ctS92 x : Nat) : Int) = 0 + 1 + 1 + 1 + 1 + 1 + 1 := by simp only [ctS92]; omega
    rw [hct] at hB
    refine Ev.pos (by rw [marks_length]; omega) (Ev.pos (by omega) ?_)
    (try simp (disch := omega) only [Go.Proofs.YthgmgbccgokfeaaL.w64])
    repeat (first | refine Ev.pos rfl ?_ | refine Ev.pos (by simp [mkS92]) ?_ | refine Ev.neg (by omega) ?_)
    rw [hct] at hh
    first
      | exact hh
      | (refine Ev.congr (fun k => ?_) hh; congr 1 <;> omega)
theorem heldRuleS_ev (l : List S60) (a : Int) (h : FitL Fit60 l) (ha : 0 ≤ a) (hB : a + mcount ctS60 l ≤ 9223372036854000000) : Ev (fun k => laws_heldRuleS.f k (marks mkS60 ctS60 l a) a) (a + mcount ctS60 l) := by
  unfold laws_heldRuleS.f
  have hl := h.1
  refine held_evF (fun k b i => laws_heldRuleS.l0 k (marks mkS60 ctS60 l a) b i) mkS60 ctS60 9223372036854000000 l a ha hB ?_ ?_
  · intro b
    refine Ev.step (f := fun _ => some b) (fun k => ?_) (Ev.now _)
    simp only [laws_heldRuleS.l0]; rw [if_neg (by rw [marks_length]; omega)]
  · intro i x b r hx hm hmm h0 hB hh
    have hi := lt_of hx
    have hf := h.2 x hmm
    refine Ev.step (fun _ => rfl) ?_
    simp only [laws_heldRuleS.l0]
    (try simp only [rd60 hm])
    have hct : ((ctS60 x : Nat) : Int) = 0 + (mcount ctInt x.f0 : Int) + (mcount ctS92 x.f1 : Int) + 1 + 1 := by simp only [ctS60]; omega
    rw [hct] at hB
    refine Ev.pos (by rw [marks_length]; omega) (Ev.pos (by omega) ?_)
    (try simp (disch := omega) only [Go.Proofs.YthgmgbccgokfeaaL.w64])
    repeat (first | refine Ev.pos rfl ?_ | refine Ev.neg (by omega) ?_)
    refine Ev.bind (heldIntS_ev x.f0 (b) hf.1 (by omega) (by omega)) ?_; try dsimp only
    (try simp (disch := omega) only [Go.Proofs.YthgmgbccgokfeaaL.w64])
    repeat (first | refine Ev.pos rfl ?_ | refine Ev.neg (by omega) ?_)
    refine Ev.bind (heldCondS_ev x.f1 (b + (mcount ctInt x.f0 : Int)) hf.2 (by omega) (by omega)) ?_; try dsimp only
    (try simp (disch := omega) only [Go.Proofs.YthgmgbccgokfeaaL.w64])
    repeat (first | refine Ev.pos rfl ?_ | refine Ev.pos (by simp [mkS60]) ?_ | refine Ev.neg (by omega) ?_)
    rw [hct] at hh
    first
      | exact hh
      | (refine Ev.congr (fun k => ?_) hh; congr 1 <;> omega)
theorem heldPolicy_ev (a0_0 : Int) (a0_1 : Int) (a0_2 : Int) (l0_3 : List S60) (a1 : Int) (hl0_3 : (FitL Fit60) l0_3) (h0 : 0 ≤ a1) (hB : a1 + (mcount ctS60 l0_3 : Int) ≤ 9223372036854000000) : Ev (fun k => laws_heldPolicy.f k a0_0 a0_1 a0_2 (marks mkS60 ctS60 l0_3 (a1)) a1) (a1 + (mcount ctS60 l0_3 : Int)) := by
  unfold laws_heldPolicy.f
  refine Ev.bind (heldRuleS_ev l0_3 (a1) hl0_3 (by omega) (by omega)) ?_; try dsimp only
  refine Ev.neg (by omega) ?_
  exact Ev.now _
end Go.Proofs.Ythgmgbccgokfeaa.PFnExactLessened
