/- What the plain helpers of laws.FnExactLogRight come to: copies, equals, sizes. Conditions: the lengths and numbers that each theorem names. -/
import Derived.Test.YtfeaemlakniijaaArgFnExactLogRight
import Derived.Test.YtfeaemlakniijaaLib
set_option linter.unusedVariables false
set_option linter.unusedSimpArgs false
namespace Go.Proofs.Ytfeaemlakniijaa.PFnExactLogRight
open Go Go.RowKit Go.Proofs.YtfeaemlakniijaaA Go.Proofs.YtfeaemlakniijaaL Go.Proofs.Ytfeaemlakniijaa.AFnExactLogRight
theorem lt_of {α : Type} {l : List α} {i : Nat} {x : α} (h : l[i]? = some x) : i < l.length := (List.getElem?_eq_some_iff.1 h).1
def FitL {α : Type} (p : α → Prop) (l : List α) : Prop := l.length ≤ 1048576 ∧ ∀ x ∈ l, p x
def FitA {α : Type} (_ : α) : Prop := True
def FitS (s : ByteArray) : Prop := s.size ≤ 1048576
theorem szl_ev {α : Type} (L : Nat → Int → Int → Option Int) (xs : List α) (ok : α → Prop) (stop : ∀ a, Ev (fun k => L k a (xs.length : Int)) a)
    (step : ∀ (i : Nat) x a, xs[i]? = some x → 0 ≤ a → a ≤ 1048576 → ∃ v, (v < 0 ∧ Ev (fun k => L k a (i : Int)) (-1)) ∨ (0 ≤ v ∧ v ≤ a ∧ ok x ∧ ∀ r, Ev (fun k => L k v ((i : Int) + 1)) r → Ev (fun k => L k a (i : Int)) r)) :
    ∀ a, 0 ≤ a → a ≤ 1048576 → ∃ v, Ev (fun k => L k a 0) v ∧ (v < 0 ∨ (0 ≤ v ∧ v ≤ a ∧ ∀ x ∈ xs, ok x)) := by
  have key : ∀ (d i : Nat) (a : Int), xs.length - i = d → i ≤ xs.length → 0 ≤ a → a ≤ 1048576 → ∃ v, Ev (fun k => L k a (i : Int)) v ∧ (v < 0 ∨ (0 ≤ v ∧ v ≤ a ∧ ∀ x ∈ xs.drop i, ok x)) := by
    intro d
    induction d with
    | zero =>
      intro i a hd hi h0 h1
      have : i = xs.length := by omega
      subst this
      exact ⟨a, stop a, .inr ⟨h0, Int.le_refl _, fun x hx => by simp at hx⟩⟩
    | succ d ih =>
      intro i a hd hi h0 h1
      have hlt : i < xs.length := by omega
      obtain ⟨v, h | ⟨hv0, hv1, hok, h⟩⟩ := step i _ a (List.getElem?_eq_getElem hlt) h0 h1
      · exact ⟨-1, h.2, .inl (by omega)⟩
      · obtain ⟨u, hu, hr⟩ := ih (i + 1) v (by omega) (by omega) hv0 (by omega)
        refine ⟨u, h u (by simpa using hu), ?_⟩
        rcases hr with hr | ⟨r0, r1, r2⟩
        · exact .inl hr
        · refine .inr ⟨r0, by omega, fun x hx => ?_⟩
          rw [List.drop_eq_getElem_cons hlt] at hx
          rcases List.mem_cons.1 hx with rfl | hx
          · exact hok
          · exact r2 x hx
  intro a h0 h1
  obtain ⟨v, h, r⟩ := key xs.length 0 a rfl (Nat.zero_le _) h0 h1
  exact ⟨v, h, by simpa using r⟩
def Fit214 (x : S214) : Prop := True
theorem szInsS_ev (l0 : List S214) (a1 : Int) (hl0 : (OkL Ok214) l0) (h0 : 0 ≤ a1) (h1 : a1 ≤ 1048576) : ∃ v, laws_szInsS.f l0 a1 = some v ∧ (v < 0 ∨ (0 ≤ v ∧ v ≤ a1 ∧ (FitL Fit214) l0)) := by
  have hl := hl0.1
  unfold laws_szInsS.f
  rw [w64 (by omega) (by omega)]
  by_cases h : a1 - (l0.length : Int) < 0
  · rw [if_pos h]; exact ⟨_, rfl, .inl (by omega)⟩
  · rw [if_neg h]; exact ⟨_, rfl, .inr ⟨by omega, by omega, by omega, fun x _ => trivial⟩⟩
theorem rdOfE {α : Type} {z : α} {l : List α} {i : Nat} {x : α} (h : l[i]? = some x) : rdOf z l (i : Int) = x := by
  unfold rdOf; simpa using get_of l z h
theorem szInsSS_ev (l : List (List S214)) (a : Int) (h : OkL (OkL Ok214) l) (h0 : 0 ≤ a) (h1 : a ≤ 1048576) : ∃ v, Ev (fun k => laws_szInsSS.f k l a) v ∧ (v < 0 ∨ (0 ≤ v ∧ v ≤ a ∧ FitL (FitL Fit214) l)) := by
  have hl := h.1
  unfold laws_szInsSS.f
  rw [w64 (by omega) (by omega)]
  by_cases hn : a - (l.length : Int) < 0
  · exact ⟨-1, Ev.pos hn (Ev.now _), .inl (by omega)⟩
  have key := szl_ev (fun k b i => laws_szInsSS.l0 k l b i) l (FitL Fit214) ?_ ?_ (a - (l.length : Int)) (by omega) (by omega)
  · obtain ⟨v, hv, hr⟩ := key
    refine ⟨v, Ev.neg hn hv, ?_⟩
    rcases hr with hr | ⟨r0, r1, r2⟩
    · exact .inl hr
    · exact .inr ⟨r0, by omega, by omega, r2⟩
  · intro b
    refine Ev.step (fun _ => rfl) ?_
    simp only [laws_szInsSS.l0]; exact Ev.neg (by omega) (Ev.now _)
  · intro i x b hx b0 b1
    have hi := lt_of hx
    have hf := h.2 x (List.mem_of_getElem? hx)
    obtain ⟨v, hv, hr⟩ := szInsS_ev x b hf b0 b1
    refine ⟨v, ?_⟩
    rcases hr with hr | ⟨r0, r1, r2⟩
    · refine .inl ⟨hr, Ev.step (fun _ => rfl) ?_⟩
      simp only [laws_szInsSS.l0]
      rw [rdOfE hx]
      exact Ev.pos (by omega) (Ev.pos (by omega) (Ev.bindc hv (Ev.pos hr (Ev.now _))))
    · refine .inr ⟨r0, r1, r2, fun r hh => Ev.step (fun _ => rfl) ?_⟩
      simp only [laws_szInsSS.l0]
      rw [rdOfE hx, w64 (x := (i : Int) + 1) (by omega) (by omega)]
      exact Ev.pos (by omega) (Ev.pos (by omega) (Ev.bindc hv (Ev.neg (by omega) hh)))
theorem szInsSSS_ev (l : List (List (List S214))) (a : Int) (h : OkL (OkL (OkL Ok214)) l) (h0 : 0 ≤ a) (h1 : a ≤ 1048576) : ∃ v, Ev (fun k => laws_szInsSSS.f k l a) v ∧ (v < 0 ∨ (0 ≤ v ∧ v ≤ a ∧ FitL (FitL (FitL Fit214)) l)) := by
  have hl := h.1
  unfold laws_szInsSSS.f
  rw [w64 (by omega) (by omega)]
  by_cases hn : a - (l.length : Int) < 0
  · exact ⟨-1, Ev.pos hn (Ev.now _), .inl (by omega)⟩
  have key := szl_ev (fun k b i => laws_szInsSSS.l0 k l b i) l (FitL (FitL Fit214)) ?_ ?_ (a - (l.length : Int)) (by omega) (by omega)
  · obtain ⟨v, hv, hr⟩ := key
    refine ⟨v, Ev.neg hn hv, ?_⟩
    rcases hr with hr | ⟨r0, r1, r2⟩
    · exact .inl hr
    · exact .inr ⟨r0, by omega, by omega, r2⟩
  · intro b
    refine Ev.step (fun _ => rfl) ?_
    simp only [laws_szInsSSS.l0]; exact Ev.neg (by omega) (Ev.now _)
  · intro i x b hx b0 b1
    have hi := lt_of hx
    have hf := h.2 x (List.mem_of_getElem? hx)
    obtain ⟨v, hv, hr⟩ := szInsSS_ev x b hf b0 b1
    refine ⟨v, ?_⟩
    rcases hr with hr | ⟨r0, r1, r2⟩
    · refine .inl ⟨hr, Ev.step (fun _ => rfl) ?_⟩
      simp only [laws_szInsSSS.l0]
      rw [rdOfE hx]
      exact Ev.pos (by omega) (Ev.pos (by omega) (Ev.bind hv (Ev.pos hr (Ev.now _))))
    · refine .inr ⟨r0, r1, r2, fun r hh => Ev.step (fun _ => rfl) ?_⟩
      simp only [laws_szInsSSS.l0]
      rw [rdOfE hx, w64 (x := (i : Int) + 1) (by omega) (by omega)]
      exact Ev.pos (by omega) (Ev.pos (by omega) (Ev.bind hv (Ev.neg (by omega) hh)))
def Fit194 (x : S194) : Prop := True
theorem szItemS_ev (l0 : List S194) (a1 : Int) (hl0 : (OkL Ok194) l0) (h0 : 0 ≤ a1) (h1 : a1 ≤ 1048576) : ∃ v, laws_szItemS.f l0 a1 = some v ∧ (v < 0 ∨ (0 ≤ v ∧ v ≤ a1 ∧ (FitL Fit194) l0)) := by
  have hl := hl0.1
  unfold laws_szItemS.f
  rw [w64 (by omega) (by omega)]
  by_cases h : a1 - (l0.length : Int) < 0
  · rw [if_pos h]; exact ⟨_, rfl, .inl (by omega)⟩
  · rw [if_neg h]; exact ⟨_, rfl, .inr ⟨by omega, by omega, by omega, fun x _ => trivial⟩⟩
theorem szRing_ev (l0_0 : List S194) (a0_1 : Int) (a0_2 : Int) (a0_3 : Int) (a1 : Int) (hl0_0 : (OkL Ok194) l0_0) (h0 : 0 ≤ a1) (h1 : a1 ≤ 1048576) : ∃ v, laws_szRing.f l0_0 a0_1 a0_2 a0_3 a1 = some v ∧ (v < 0 ∨ (0 ≤ v ∧ v ≤ a1 ∧ (FitL Fit194) l0_0)) := by
  unfold laws_szRing.f
  obtain ⟨v1, e1, q1⟩ := szItemS_ev l0_0 a1 hl0_0 (by omega) (by omega)
  rw [e1]; simp only [Option.bind_some]
  rcases q1 with q1 | q1
  · rw [if_pos q1]; exact ⟨_, rfl, .inl (by omega)⟩
  rw [if_neg (by omega)]
  exact ⟨_, rfl, .inr ⟨by omega, by omega, q1.2.2⟩⟩
theorem rd150 {l : List S150} {i : Nat} {x : S150} (h : l[i]? = some x) : rd_T150 l (i : Int) = x := by
  unfold rd_T150; simpa using get_of l z150 h
def Fit150 (x : S150) : Prop := (FitL Fit194) x.f0
theorem szRingS_ev (l : List S150) (a : Int) (h : OkL Ok150 l) (h0 : 0 ≤ a) (h1 : a ≤ 1048576) : ∃ v, Ev (fun k => laws_szRingS.f k l a) v ∧ (v < 0 ∨ (0 ≤ v ∧ v ≤ a ∧ FitL Fit150 l)) := by
  have hl := h.1
  unfold laws_szRingS.f
  rw [w64 (by omega) (by omega)]
  by_cases hn : a - (l.length : Int) < 0
  · exact ⟨-1, Ev.pos hn (Ev.now _), .inl (by omega)⟩
  have key := szl_ev (fun k b i => laws_szRingS.l0 k l b i) l Fit150 ?_ ?_ (a - (l.length : Int)) (by omega) (by omega)
  · obtain ⟨v, hv, hr⟩ := key
    refine ⟨v, Ev.neg hn hv, ?_⟩
    rcases hr with hr | ⟨r0, r1, r2⟩
    · exact .inl hr
    · exact .inr ⟨r0, by omega, by omega, r2⟩
  · intro b
    refine Ev.step (fun _ => rfl) ?_
    simp only [laws_szRingS.l0]; exact Ev.neg (by omega) (Ev.now _)
  · intro i x b hx b0 b1
    have hi := lt_of hx
    have hf := h.2 x (List.mem_of_getElem? hx)
    obtain ⟨o0, o1, o2, o3⟩ := hf
    obtain ⟨v, hv, hr⟩ := szRing_ev x.f0 x.f1 x.f2 x.f3 b o0 b0 b1
    refine ⟨v, ?_⟩
    rcases hr with hr | ⟨r0, r1, r2⟩
    · refine .inl ⟨hr, Ev.step (fun _ => rfl) ?_⟩
      simp only [laws_szRingS.l0]
      rw [rd150 hx]
      exact Ev.pos (by omega) (Ev.pos (by omega) (Ev.bindc hv (Ev.pos hr (Ev.now _))))
    · refine .inr ⟨r0, r1, r2, fun r hh => Ev.step (fun _ => rfl) ?_⟩
      simp only [laws_szRingS.l0]
      rw [rd150 hx, w64 (x := (i : Int) + 1) (by omega) (by omega)]
      exact Ev.pos (by omega) (Ev.pos (by omega) (Ev.bindc hv (Ev.neg (by omega) hh)))
theorem szSender_ev (a0_0 : Int) (a0_1 : Int) (l0_2 : List S194) (a0_3 : Int) (a0_4 : Int) (a1 : Int) (hl0_2 : (OkL Ok194) l0_2) (h0 : 0 ≤ a1) (h1 : a1 ≤ 1048576) : ∃ v, laws_szSender.f a0_0 a0_1 l0_2 a0_3 a0_4 a1 = some v ∧ (v < 0 ∨ (0 ≤ v ∧ v ≤ a1 ∧ (FitL Fit194) l0_2)) := by
  unfold laws_szSender.f
  obtain ⟨v1, e1, q1⟩ := szItemS_ev l0_2 a1 hl0_2 (by omega) (by omega)
  rw [e1]; simp only [Option.bind_some]
  rcases q1 with q1 | q1
  · rw [if_pos q1]; exact ⟨_, rfl, .inl (by omega)⟩
  rw [if_neg (by omega)]
  exact ⟨_, rfl, .inr ⟨by omega, by omega, q1.2.2⟩⟩
theorem rd153 {l : List S153} {i : Nat} {x : S153} (h : l[i]? = some x) : rd_T153 l (i : Int) = x := by
  unfold rd_T153; simpa using get_of l z153 h
def Fit153 (x : S153) : Prop := (FitL Fit194) x.f2
theorem szSenderS_ev (l : List S153) (a : Int) (h : OkL Ok153 l) (h0 : 0 ≤ a) (h1 : a ≤ 1048576) : ∃ v, Ev (fun k => laws_szSenderS.f k l a) v ∧ (v < 0 ∨ (0 ≤ v ∧ v ≤ a ∧ FitL Fit153 l)) := by
  have hl := h.1
  unfold laws_szSenderS.f
  rw [w64 (by omega) (by omega)]
  by_cases hn : a - (l.length : Int) < 0
  · exact ⟨-1, Ev.pos hn (Ev.now _), .inl (by omega)⟩
  have key := szl_ev (fun k b i => laws_szSenderS.l0 k l b i) l Fit153 ?_ ?_ (a - (l.length : Int)) (by omega) (by omega)
  · obtain ⟨v, hv, hr⟩ := key
    refine ⟨v, Ev.neg hn hv, ?_⟩
    rcases hr with hr | ⟨r0, r1, r2⟩
    · exact .inl hr
    · exact .inr ⟨r0, by omega, by omega, r2⟩
  · intro b
    refine Ev.step (fun _ => rfl) ?_
    simp only [laws_szSenderS.l0]; exact Ev.neg (by omega) (Ev.now _)
  · intro i x b hx b0 b1
    have hi := lt_of hx
    have hf := h.2 x (List.mem_of_getElem? hx)
    obtain ⟨o0, o1, o2, o3, o4⟩ := hf
    obtain ⟨v, hv, hr⟩ := szSender_ev x.f0 x.f1 x.f2 x.f3 x.f4 b o2 b0 b1
    refine ⟨v, ?_⟩
    rcases hr with hr | ⟨r0, r1, r2⟩
    · refine .inl ⟨hr, Ev.step (fun _ => rfl) ?_⟩
      simp only [laws_szSenderS.l0]
      rw [rd153 hx]
      exact Ev.pos (by omega) (Ev.pos (by omega) (Ev.bindc hv (Ev.pos hr (Ev.now _))))
    · refine .inr ⟨r0, r1, r2, fun r hh => Ev.step (fun _ => rfl) ?_⟩
      simp only [laws_szSenderS.l0]
      rw [rd153 hx, w64 (x := (i : Int) + 1) (by omega) (by omega)]
      exact Ev.pos (by omega) (Ev.pos (by omega) (Ev.bindc hv (Ev.neg (by omega) hh)))
def Fit196 (x : S196) : Prop := Fit194 x.f2
theorem szEntryS_ev (l0 : List S196) (a1 : Int) (hl0 : (OkL Ok196) l0) (h0 : 0 ≤ a1) (h1 : a1 ≤ 1048576) : ∃ v, laws_szEntryS.f l0 a1 = some v ∧ (v < 0 ∨ (0 ≤ v ∧ v ≤ a1 ∧ (FitL Fit196) l0)) := by
  have hl := hl0.1
  unfold laws_szEntryS.f
  rw [w64 (by omega) (by omega)]
  by_cases h : a1 - (l0.length : Int) < 0
  · rw [if_pos h]; exact ⟨_, rfl, .inl (by omega)⟩
  · rw [if_neg h]; exact ⟨_, rfl, .inr ⟨by omega, by omega, by omega, fun x _ => trivial⟩⟩
theorem szIntS_ev (l0 : List Int) (a1 : Int) (hl0 : (OkL (OkN .i64)) l0) (h0 : 0 ≤ a1) (h1 : a1 ≤ 1048576) : ∃ v, laws_szIntS.f l0 a1 = some v ∧ (v < 0 ∨ (0 ≤ v ∧ v ≤ a1 ∧ (FitL FitA) l0)) := by
  have hl := hl0.1
  unfold laws_szIntS.f
  rw [w64 (by omega) (by omega)]
  by_cases h : a1 - (l0.length : Int) < 0
  · rw [if_pos h]; exact ⟨_, rfl, .inl (by omega)⟩
  · rw [if_neg h]; exact ⟨_, rfl, .inr ⟨by omega, by omega, by omega, fun x _ => trivial⟩⟩
def Fit198 (x : S198) : Prop := Fit194 x.f2
theorem szEarlyS_ev (l0 : List S198) (a1 : Int) (hl0 : (OkL Ok198) l0) (h0 : 0 ≤ a1) (h1 : a1 ≤ 1048576) : ∃ v, laws_szEarlyS.f l0 a1 = some v ∧ (v < 0 ∨ (0 ≤ v ∧ v ≤ a1 ∧ (FitL Fit198) l0)) := by
  have hl := hl0.1
  unfold laws_szEarlyS.f
  rw [w64 (by omega) (by omega)]
  by_cases h : a1 - (l0.length : Int) < 0
  · rw [if_pos h]; exact ⟨_, rfl, .inl (by omega)⟩
  · rw [if_neg h]; exact ⟨_, rfl, .inr ⟨by omega, by omega, by omega, fun x _ => trivial⟩⟩
theorem szKeeper_ev (l0_0 : List S196) (l0_1 : List Int) (l0_2 : List S198) (a0_3 : Int) (l0_4 : List Int) (a1 : Int) (hl0_0 : (OkL Ok196) l0_0) (hl0_1 : (OkL (OkN .i64)) l0_1) (hl0_2 : (OkL Ok198) l0_2) (hl0_4 : (OkL (OkN .i64)) l0_4) (h0 : 0 ≤ a1) (h1 : a1 ≤ 1048576) : ∃ v, laws_szKeeper.f l0_0 l0_1 l0_2 a0_3 l0_4 a1 = some v ∧ (v < 0 ∨ (0 ≤ v ∧ v ≤ a1 ∧ (FitL Fit196) l0_0 ∧ (FitL FitA) l0_1 ∧ (FitL Fit198) l0_2 ∧ (FitL FitA) l0_4)) := by
  unfold laws_szKeeper.f
  obtain ⟨v1, e1, q1⟩ := szEntryS_ev l0_0 a1 hl0_0 (by omega) (by omega)
  rw [e1]; simp only [Option.bind_some]
  rcases q1 with q1 | q1
  · rw [if_pos q1]; exact ⟨_, rfl, .inl (by omega)⟩
  rw [if_neg (by omega)]
  obtain ⟨v2, e2, q2⟩ := szIntS_ev l0_1 v1 hl0_1 (by omega) (by omega)
  rw [e2]; simp only [Option.bind_some]
  rcases q2 with q2 | q2
  · rw [if_pos q2]; exact ⟨_, rfl, .inl (by omega)⟩
  rw [if_neg (by omega)]
  obtain ⟨v3, e3, q3⟩ := szEarlyS_ev l0_2 v2 hl0_2 (by omega) (by omega)
  rw [e3]; simp only [Option.bind_some]
  rcases q3 with q3 | q3
  · rw [if_pos q3]; exact ⟨_, rfl, .inl (by omega)⟩
  rw [if_neg (by omega)]
  obtain ⟨v4, e4, q4⟩ := szIntS_ev l0_4 v3 hl0_4 (by omega) (by omega)
  rw [e4]; simp only [Option.bind_some]
  rcases q4 with q4 | q4
  · rw [if_pos q4]; exact ⟨_, rfl, .inl (by omega)⟩
  rw [if_neg (by omega)]
  exact ⟨_, rfl, .inr ⟨by omega, by omega, q1.2.2, q2.2.2, q3.2.2, q4.2.2⟩⟩
theorem szLetter_ev (a0_0 : Bool) (a0_1 : ByteArray) (a0_2 : Bool) (a1 : Int) (ha0_1 : OkS a0_1) (h0 : 0 ≤ a1) (h1 : a1 ≤ 1048576) : ∃ v, laws_szLetter.f a0_0 a0_1 a0_2 a1 = some v ∧ (v < 0 ∨ (0 ≤ v ∧ v ≤ a1 ∧ FitS a0_1)) := by
  unfold laws_szLetter.f
  have ga0_1 : a0_1.size ≤ 9223372036854775807 := ha0_1
  rw [w64 (by omega) (by omega)]
  by_cases hsa0_1 : a1 - (a0_1.size : Int) < 0
  · rw [if_pos hsa0_1]; exact ⟨_, rfl, .inl (by omega)⟩
  rw [if_neg hsa0_1]
  exact ⟨_, rfl, .inr ⟨by omega, by omega, (show a0_1.size ≤ 1048576 by omega)⟩⟩
theorem rd158 {l : List S158} {i : Nat} {x : S158} (h : l[i]? = some x) : rd_T158 l (i : Int) = x := by
  unfold rd_T158; simpa using get_of l z158 h
def Fit158 (x : S158) : Prop := FitS x.f1
theorem szLetterS_ev (l : List S158) (a : Int) (h : OkL Ok158 l) (h0 : 0 ≤ a) (h1 : a ≤ 1048576) : ∃ v, Ev (fun k => laws_szLetterS.f k l a) v ∧ (v < 0 ∨ (0 ≤ v ∧ v ≤ a ∧ FitL Fit158 l)) := by
  have hl := h.1
  unfold laws_szLetterS.f
  rw [w64 (by omega) (by omega)]
  by_cases hn : a - (l.length : Int) < 0
  · exact ⟨-1, Ev.pos hn (Ev.now _), .inl (by omega)⟩
  have key := szl_ev (fun k b i => laws_szLetterS.l0 k l b i) l Fit158 ?_ ?_ (a - (l.length : Int)) (by omega) (by omega)
  · obtain ⟨v, hv, hr⟩ := key
    refine ⟨v, Ev.neg hn hv, ?_⟩
    rcases hr with hr | ⟨r0, r1, r2⟩
    · exact .inl hr
    · exact .inr ⟨r0, by omega, by omega, r2⟩
  · intro b
    refine Ev.step (fun _ => rfl) ?_
    simp only [laws_szLetterS.l0]; exact Ev.neg (by omega) (Ev.now _)
  · intro i x b hx b0 b1
    have hi := lt_of hx
    have hf := h.2 x (List.mem_of_getElem? hx)
    obtain ⟨o0, o1, o2⟩ := hf
    obtain ⟨v, hv, hr⟩ := szLetter_ev x.f0 x.f1 x.f2 b o1 b0 b1
    refine ⟨v, ?_⟩
    rcases hr with hr | ⟨r0, r1, r2⟩
    · refine .inl ⟨hr, Ev.step (fun _ => rfl) ?_⟩
      simp only [laws_szLetterS.l0]
      rw [rd158 hx]
      exact Ev.pos (by omega) (Ev.pos (by omega) (Ev.bindc hv (Ev.pos hr (Ev.now _))))
    · refine .inr ⟨r0, r1, r2, fun r hh => Ev.step (fun _ => rfl) ?_⟩
      simp only [laws_szLetterS.l0]
      rw [rd158 hx, w64 (x := (i : Int) + 1) (by omega) (by omega)]
      exact Ev.pos (by omega) (Ev.pos (by omega) (Ev.bindc hv (Ev.neg (by omega) hh)))
def Fit172 (x : S172) : Prop := True
theorem szSeenS_ev (l0 : List S172) (a1 : Int) (hl0 : (OkL Ok172) l0) (h0 : 0 ≤ a1) (h1 : a1 ≤ 1048576) : ∃ v, laws_szSeenS.f l0 a1 = some v ∧ (v < 0 ∨ (0 ≤ v ∧ v ≤ a1 ∧ (FitL Fit172) l0)) := by
  have hl := hl0.1
  unfold laws_szSeenS.f
  rw [w64 (by omega) (by omega)]
  by_cases h : a1 - (l0.length : Int) < 0
  · rw [if_pos h]; exact ⟨_, rfl, .inl (by omega)⟩
  · rw [if_neg h]; exact ⟨_, rfl, .inr ⟨by omega, by omega, by omega, fun x _ => trivial⟩⟩
theorem szWorld_ev (l0_0 : List (List (List S214))) (l0_1 : List S150) (l0_2 : List S153) (l0_3 : List S196) (l0_4 : List Int) (l0_5 : List S198) (a0_6 : Int) (l0_7 : List Int) (l0_8 : List S158) (a0_9 : Int) (l0_10 : List Int) (l0_11 : List S172) (a1 : Int) (hl0_0 : (OkL (OkL (OkL Ok214))) l0_0) (hl0_1 : (OkL Ok150) l0_1) (hl0_2 : (OkL Ok153) l0_2) (hl0_3 : (OkL Ok196) l0_3) (hl0_4 : (OkL (OkN .i64)) l0_4) (hl0_5 : (OkL Ok198) l0_5) (hl0_7 : (OkL (OkN .i64)) l0_7) (hl0_8 : (OkL Ok158) l0_8) (hl0_10 : (OkL (OkN .i64)) l0_10) (hl0_11 : (OkL Ok172) l0_11) (h0 : 0 ≤ a1) (h1 : a1 ≤ 1048576) : ∃ v, Ev (fun k => laws_szWorld.f k l0_0 l0_1 l0_2 l0_3 l0_4 l0_5 a0_6 l0_7 l0_8 a0_9 l0_10 l0_11 a1) v ∧ (v < 0 ∨ (0 ≤ v ∧ v ≤ a1 ∧ (FitL (FitL (FitL Fit214))) l0_0 ∧ (FitL Fit150) l0_1 ∧ (FitL Fit153) l0_2 ∧ (FitL Fit196) l0_3 ∧ (FitL FitA) l0_4 ∧ (FitL Fit198) l0_5 ∧ (FitL FitA) l0_7 ∧ (FitL Fit158) l0_8 ∧ (FitL FitA) l0_10 ∧ (FitL Fit172) l0_11)) := by
  unfold laws_szWorld.f
  obtain ⟨v1, e1, q1⟩ := szInsSSS_ev l0_0 a1 hl0_0 (by omega) (by omega)
  rcases q1 with q1 | q1
  · exact ⟨-1, Ev.bind e1 (Ev.pos q1 (Ev.now _)), .inl (by omega)⟩
  obtain ⟨v2, e2, q2⟩ := szRingS_ev l0_1 v1 hl0_1 (by omega) (by omega)
  rcases q2 with q2 | q2
  · exact ⟨-1, Ev.bind e1 (Ev.neg (by omega) (Ev.bind e2 (Ev.pos q2 (Ev.now _)))), .inl (by omega)⟩
  obtain ⟨v3, e3, q3⟩ := szSenderS_ev l0_2 v2 hl0_2 (by omega) (by omega)
  rcases q3 with q3 | q3
  · exact ⟨-1, Ev.bind e1 (Ev.neg (by omega) (Ev.bind e2 (Ev.neg (by omega) (Ev.bind e3 (Ev.pos q3 (Ev.now _)))))), .inl (by omega)⟩
  obtain ⟨v4, e4, q4⟩ := szKeeper_ev l0_3 l0_4 l0_5 a0_6 l0_7 v3 hl0_3 hl0_4 hl0_5 hl0_7 (by omega) (by omega)
  rcases q4 with q4 | q4
  · exact ⟨-1, Ev.bind e1 (Ev.neg (by omega) (Ev.bind e2 (Ev.neg (by omega) (Ev.bind e3 (Ev.neg (by omega) (Ev.bindc e4 (Ev.pos q4 (Ev.now _)))))))), .inl (by omega)⟩
  obtain ⟨v5, e5, q5⟩ := szLetterS_ev l0_8 v4 hl0_8 (by omega) (by omega)
  rcases q5 with q5 | q5
  · exact ⟨-1, Ev.bind e1 (Ev.neg (by omega) (Ev.bind e2 (Ev.neg (by omega) (Ev.bind e3 (Ev.neg (by omega) (Ev.bindc e4 (Ev.neg (by omega) (Ev.bind e5 (Ev.pos q5 (Ev.now _)))))))))), .inl (by omega)⟩
  obtain ⟨v6, e6, q6⟩ := szIntS_ev l0_10 v5 hl0_10 (by omega) (by omega)
  rcases q6 with q6 | q6
  · exact ⟨-1, Ev.bind e1 (Ev.neg (by omega) (Ev.bind e2 (Ev.neg (by omega) (Ev.bind e3 (Ev.neg (by omega) (Ev.bindc e4 (Ev.neg (by omega) (Ev.bind e5 (Ev.neg (by omega) (Ev.bindc e6 (Ev.pos q6 (Ev.now _)))))))))))), .inl (by omega)⟩
  obtain ⟨v7, e7, q7⟩ := szSeenS_ev l0_11 v6 hl0_11 (by omega) (by omega)
  rcases q7 with q7 | q7
  · exact ⟨-1, Ev.bind e1 (Ev.neg (by omega) (Ev.bind e2 (Ev.neg (by omega) (Ev.bind e3 (Ev.neg (by omega) (Ev.bindc e4 (Ev.neg (by omega) (Ev.bind e5 (Ev.neg (by omega) (Ev.bindc e6 (Ev.neg (by omega) (Ev.bindc e7 (Ev.pos q7 (Ev.now _)))))))))))))), .inl (by omega)⟩
  exact ⟨v7, Ev.bind e1 (Ev.neg (by omega) (Ev.bind e2 (Ev.neg (by omega) (Ev.bind e3 (Ev.neg (by omega) (Ev.bindc e4 (Ev.neg (by omega) (Ev.bind e5 (Ev.neg (by omega) (Ev.bindc e6 (Ev.neg (by omega) (Ev.bindc e7 (Ev.neg (by omega) (Ev.now _)))))))))))))), .inr ⟨by omega, by omega, q1.2.2, q2.2.2, q3.2.2, q4.2.2.1, q4.2.2.2.1, q4.2.2.2.2.1, q4.2.2.2.2.2, q5.2.2, q6.2.2, q7.2.2⟩⟩
theorem toIns_ev (a0_0 : Int) (a0_1 : Int) (a0_2 : Int) (a0_3 : Int) : laws_toIns.f a0_0 a0_1 a0_2 a0_3 = some (a0_0, a0_1, a0_2, a0_3) := rfl
theorem rd214 {l : List S214} {i : Nat} {x : S214} (h : l[i]? = some x) : rd_T214 l (i : Int) = x := by
  unfold rd_T214; simpa using get_of l z214 h
def cvS214_S212 (x : S214) : S212 := ⟨x.f0, x.f1, x.f2, x.f3⟩
theorem toInsS_ev (l : List S214) (h : FitL Fit214 l) : Ev (fun k => laws_toInsS.f k l) (l.map cvS214_S212) := by
  unfold laws_toInsS.f
  have hl := h.1
  refine Ev.pos (by omega) (Ev.pos (by omega) ?_)
  rw [Int.toNat_natCast]
  refine copy_ev (fun k out i => laws_toInsS.l0 k l out i) l cvS214_S212 z212 ?_ ?_
  · intro out
    refine Ev.step (fun _ => rfl) ?_
    simp only [laws_toInsS.l0]; exact Ev.neg (by omega) (Ev.now _)
  · intro i x out r hx ho hh
    have hi := lt_of hx
    have hf := h.2 x (List.mem_of_getElem? hx)
    refine Ev.step (fun _ => rfl) ?_
    simp only [laws_toInsS.l0]
    rw [rd214 hx, w64 (x := (i : Int) + 1) (by omega) (by omega), Int.toNat_natCast]
    refine Ev.pos (by omega) (Ev.pos (by omega) ?_)
    refine Ev.bindc (toIns_ev x.f0 x.f1 x.f2 x.f3 ) ?_
    first
      | exact Ev.pos (by omega) hh
      | exact hh
theorem toInsSS_ev (l : List (List S214)) (h : FitL (FitL Fit214) l) : Ev (fun k => laws_toInsSS.f k l) (l.map (List.map cvS214_S212)) := by
  unfold laws_toInsSS.f
  have hl := h.1
  refine Ev.pos (by omega) (Ev.pos (by omega) ?_)
  rw [Int.toNat_natCast]
  refine copy_ev (fun k out i => laws_toInsSS.l0 k l out i) l (List.map cvS214_S212) ([] : List S212) ?_ ?_
  · intro out
    refine Ev.step (fun _ => rfl) ?_
    simp only [laws_toInsSS.l0]; exact Ev.neg (by omega) (Ev.now _)
  · intro i x out r hx ho hh
    have hi := lt_of hx
    have hf := h.2 x (List.mem_of_getElem? hx)
    refine Ev.step (fun _ => rfl) ?_
    simp only [laws_toInsSS.l0]
    rw [rdOfE hx, w64 (x := (i : Int) + 1) (by omega) (by omega), Int.toNat_natCast]
    refine Ev.pos (by omega) (Ev.pos (by omega) ?_)
    refine Ev.bind (toInsS_ev x (by first | exact hf | exact hf.1 | exact hf.2 | exact hf.2.1 | exact hf.1.1)) ?_
    first
      | exact Ev.pos (by omega) hh
      | exact hh
theorem toInsSSS_ev (l : List (List (List S214))) (h : FitL (FitL (FitL Fit214)) l) : Ev (fun k => laws_toInsSSS.f k l) (l.map (List.map (List.map cvS214_S212))) := by
  unfold laws_toInsSSS.f
  have hl := h.1
  refine Ev.pos (by omega) (Ev.pos (by omega) ?_)
  rw [Int.toNat_natCast]
  refine copy_ev (fun k out i => laws_toInsSSS.l0 k l out i) l (List.map (List.map cvS214_S212)) ([] : List (List S212)) ?_ ?_
  · intro out
    refine Ev.step (fun _ => rfl) ?_
    simp only [laws_toInsSSS.l0]; exact Ev.neg (by omega) (Ev.now _)
  · intro i x out r hx ho hh
    have hi := lt_of hx
    have hf := h.2 x (List.mem_of_getElem? hx)
    refine Ev.step (fun _ => rfl) ?_
    simp only [laws_toInsSSS.l0]
    rw [rdOfE hx, w64 (x := (i : Int) + 1) (by omega) (by omega), Int.toNat_natCast]
    refine Ev.pos (by omega) (Ev.pos (by omega) ?_)
    refine Ev.bind (toInsSS_ev x (by first | exact hf | exact hf.1 | exact hf.2 | exact hf.2.1 | exact hf.1.1)) ?_
    first
      | exact Ev.pos (by omega) hh
      | exact hh
theorem toItem_ev (a0_0 : Int) (a0_1 : Int) (a0_2 : Int) (a0_3 : Int) : laws_toItem.f a0_0 a0_1 a0_2 a0_3 = some (a0_0, a0_1, a0_2, a0_3) := rfl
theorem rd194 {l : List S194} {i : Nat} {x : S194} (h : l[i]? = some x) : rd_T194 l (i : Int) = x := by
  unfold rd_T194; simpa using get_of l z194 h
def cvS194_S34 (x : S194) : S34 := ⟨x.f0, x.f1, x.f2, x.f3⟩
theorem toItemS_ev (l : List S194) (h : FitL Fit194 l) : Ev (fun k => laws_toItemS.f k l) (l.map cvS194_S34) := by
  unfold laws_toItemS.f
  have hl := h.1
  refine Ev.pos (by omega) (Ev.pos (by omega) ?_)
  rw [Int.toNat_natCast]
  refine copy_ev (fun k out i => laws_toItemS.l0 k l out i) l cvS194_S34 z34 ?_ ?_
  · intro out
    refine Ev.step (fun _ => rfl) ?_
    simp only [laws_toItemS.l0]; exact Ev.neg (by omega) (Ev.now _)
  · intro i x out r hx ho hh
    have hi := lt_of hx
    have hf := h.2 x (List.mem_of_getElem? hx)
    refine Ev.step (fun _ => rfl) ?_
    simp only [laws_toItemS.l0]
    rw [rd194 hx, w64 (x := (i : Int) + 1) (by omega) (by omega), Int.toNat_natCast]
    refine Ev.pos (by omega) (Ev.pos (by omega) ?_)
    refine Ev.bindc (toItem_ev x.f0 x.f1 x.f2 x.f3 ) ?_
    first
      | exact Ev.pos (by omega) hh
      | exact hh
theorem toRing_ev (l0_0 : List S194) (a0_1 : Int) (a0_2 : Int) (a0_3 : Int) (hl0_0 : (FitL Fit194) l0_0) : Ev (fun k => laws_toRing.f k l0_0 a0_1 a0_2 a0_3) (l0_0.map cvS194_S34, a0_1, a0_2, a0_3) := by
  unfold laws_toRing.f
  repeat (first | (refine Ev.bind (toItemS_ev _ (by assumption)) ?_; try dsimp only))
  exact Ev.now _
def cvS150_S164 (x : S150) : S164 := ⟨(List.map cvS194_S34) x.f0, x.f1, x.f2, x.f3⟩
theorem toRingS_ev (l : List S150) (h : FitL Fit150 l) : Ev (fun k => laws_toRingS.f k l) (l.map cvS150_S164) := by
  unfold laws_toRingS.f
  have hl := h.1
  refine Ev.pos (by omega) (Ev.pos (by omega) ?_)
  rw [Int.toNat_natCast]
  refine copy_ev (fun k out i => laws_toRingS.l0 k l out i) l cvS150_S164 z164 ?_ ?_
  · intro out
    refine Ev.step (fun _ => rfl) ?_
    simp only [laws_toRingS.l0]; exact Ev.neg (by omega) (Ev.now _)
  · intro i x out r hx ho hh
    have hi := lt_of hx
    have hf := h.2 x (List.mem_of_getElem? hx)
    refine Ev.step (fun _ => rfl) ?_
    simp only [laws_toRingS.l0]
    rw [rd150 hx, w64 (x := (i : Int) + 1) (by omega) (by omega), Int.toNat_natCast]
    refine Ev.pos (by omega) (Ev.pos (by omega) ?_)
    refine Ev.bind (toRing_ev x.f0 x.f1 x.f2 x.f3 (by first | exact hf | exact hf.1 | exact hf.2 | exact hf.2.1 | exact hf.1.1)) ?_
    first
      | exact Ev.pos (by omega) hh
      | exact hh
theorem toSender_ev (a0_0 : Int) (a0_1 : Int) (l0_2 : List S194) (a0_3 : Int) (a0_4 : Int) (hl0_2 : (FitL Fit194) l0_2) : Ev (fun k => laws_toSender.f k a0_0 a0_1 l0_2 a0_3 a0_4) (a0_0, a0_1, l0_2.map cvS194_S34, a0_3, a0_4) := by
  unfold laws_toSender.f
  repeat (first | (refine Ev.bind (toItemS_ev _ (by assumption)) ?_; try dsimp only))
  exact Ev.now _
def cvS153_S75 (x : S153) : S75 := ⟨x.f0, x.f1, (List.map cvS194_S34) x.f2, x.f3, x.f4⟩
theorem toSenderS_ev (l : List S153) (h : FitL Fit153 l) : Ev (fun k => laws_toSenderS.f k l) (l.map cvS153_S75) := by
  unfold laws_toSenderS.f
  have hl := h.1
  refine Ev.pos (by omega) (Ev.pos (by omega) ?_)
  rw [Int.toNat_natCast]
  refine copy_ev (fun k out i => laws_toSenderS.l0 k l out i) l cvS153_S75 z75 ?_ ?_
  · intro out
    refine Ev.step (fun _ => rfl) ?_
    simp only [laws_toSenderS.l0]; exact Ev.neg (by omega) (Ev.now _)
  · intro i x out r hx ho hh
    have hi := lt_of hx
    have hf := h.2 x (List.mem_of_getElem? hx)
    refine Ev.step (fun _ => rfl) ?_
    simp only [laws_toSenderS.l0]
    rw [rd153 hx, w64 (x := (i : Int) + 1) (by omega) (by omega), Int.toNat_natCast]
    refine Ev.pos (by omega) (Ev.pos (by omega) ?_)
    refine Ev.bind (toSender_ev x.f0 x.f1 x.f2 x.f3 x.f4 (by first | exact hf | exact hf.1 | exact hf.2 | exact hf.2.1 | exact hf.1.1)) ?_
    first
      | exact Ev.pos (by omega) hh
      | exact hh
theorem toEntry_ev (a0_0 : Int) (a0_1 : Int) (a0_2 : Int) (a0_3 : Int) (a0_4 : Int) (a0_5 : Int) : laws_toEntry.f a0_0 a0_1 a0_2 a0_3 a0_4 a0_5 = some (a0_0, a0_1, a0_2, a0_3, a0_4, a0_5) := rfl
theorem rd196 {l : List S196} {i : Nat} {x : S196} (h : l[i]? = some x) : rd_T196 l (i : Int) = x := by
  unfold rd_T196; simpa using get_of l z196 h
def cvS196_S98 (x : S196) : S98 := ⟨x.f0, x.f1, cvS194_S34 x.f2⟩
theorem toEntryS_ev (l : List S196) (h : FitL Fit196 l) : Ev (fun k => laws_toEntryS.f k l) (l.map cvS196_S98) := by
  unfold laws_toEntryS.f
  have hl := h.1
  refine Ev.pos (by omega) (Ev.pos (by omega) ?_)
  rw [Int.toNat_natCast]
  refine copy_ev (fun k out i => laws_toEntryS.l0 k l out i) l cvS196_S98 z98 ?_ ?_
  · intro out
    refine Ev.step (fun _ => rfl) ?_
    simp only [laws_toEntryS.l0]; exact Ev.neg (by omega) (Ev.now _)
  · intro i x out r hx ho hh
    have hi := lt_of hx
    have hf := h.2 x (List.mem_of_getElem? hx)
    refine Ev.step (fun _ => rfl) ?_
    simp only [laws_toEntryS.l0]
    rw [rd196 hx, w64 (x := (i : Int) + 1) (by omega) (by omega), Int.toNat_natCast]
    refine Ev.pos (by omega) (Ev.pos (by omega) ?_)
    refine Ev.bindc (toEntry_ev x.f0 x.f1 x.f2.f0 x.f2.f1 x.f2.f2 x.f2.f3 ) ?_
    first
      | exact Ev.pos (by omega) hh
      | exact hh
theorem rdInt {l : List Int} {i : Nat} {x : Int} (h : l[i]? = some x) : rd l (i : Int) = x := by
  unfold rd; simpa using get_of l 0 h
theorem toIntS_ev (l : List Int) (h : FitL FitA l) : Ev (fun k => laws_toIntS.f k l) (l) := by
  unfold laws_toIntS.f
  have hl := h.1
  refine Ev.eq (List.map_id' l) ?_
  refine Ev.pos (by omega) (Ev.pos (by omega) ?_)
  rw [Int.toNat_natCast]
  refine copy_ev (fun k out i => laws_toIntS.l0 k l out i) l (fun x : Int => x) (0 : Int) ?_ ?_
  · intro out
    refine Ev.step (fun _ => rfl) ?_
    simp only [laws_toIntS.l0]; exact Ev.neg (by omega) (Ev.now _)
  · intro i x out r hx ho hh
    have hi := lt_of hx
    have hf := h.2 x (List.mem_of_getElem? hx)
    refine Ev.step (fun _ => rfl) ?_
    simp only [laws_toIntS.l0]
    rw [rdInt hx, w64 (x := (i : Int) + 1) (by omega) (by omega), Int.toNat_natCast]
    refine Ev.pos (by omega) (Ev.pos (by omega) ?_)
    first
      | exact Ev.pos (by omega) hh
      | exact hh
theorem toEarly_ev (a0_0 : Int) (a0_1 : Int) (a0_2 : Int) (a0_3 : Int) (a0_4 : Int) (a0_5 : Int) : laws_toEarly.f a0_0 a0_1 a0_2 a0_3 a0_4 a0_5 = some (a0_0, a0_1, a0_2, a0_3, a0_4, a0_5) := rfl
theorem rd198 {l : List S198} {i : Nat} {x : S198} (h : l[i]? = some x) : rd_T198 l (i : Int) = x := by
  unfold rd_T198; simpa using get_of l z198 h
def cvS198_S97 (x : S198) : S97 := ⟨x.f0, x.f1, cvS194_S34 x.f2⟩
theorem toEarlyS_ev (l : List S198) (h : FitL Fit198 l) : Ev (fun k => laws_toEarlyS.f k l) (l.map cvS198_S97) := by
  unfold laws_toEarlyS.f
  have hl := h.1
  refine Ev.pos (by omega) (Ev.pos (by omega) ?_)
  rw [Int.toNat_natCast]
  refine copy_ev (fun k out i => laws_toEarlyS.l0 k l out i) l cvS198_S97 z97 ?_ ?_
  · intro out
    refine Ev.step (fun _ => rfl) ?_
    simp only [laws_toEarlyS.l0]; exact Ev.neg (by omega) (Ev.now _)
  · intro i x out r hx ho hh
    have hi := lt_of hx
    have hf := h.2 x (List.mem_of_getElem? hx)
    refine Ev.step (fun _ => rfl) ?_
    simp only [laws_toEarlyS.l0]
    rw [rd198 hx, w64 (x := (i : Int) + 1) (by omega) (by omega), Int.toNat_natCast]
    refine Ev.pos (by omega) (Ev.pos (by omega) ?_)
    refine Ev.bindc (toEarly_ev x.f0 x.f1 x.f2.f0 x.f2.f1 x.f2.f2 x.f2.f3 ) ?_
    first
      | exact Ev.pos (by omega) hh
      | exact hh
theorem toKeeper_ev (l0_0 : List S196) (l0_1 : List Int) (l0_2 : List S198) (a0_3 : Int) (l0_4 : List Int) (hl0_0 : (FitL Fit196) l0_0) (hl0_1 : (FitL FitA) l0_1) (hl0_2 : (FitL Fit198) l0_2) (hl0_4 : (FitL FitA) l0_4) : Ev (fun k => laws_toKeeper.f k l0_0 l0_1 l0_2 a0_3 l0_4) (l0_0.map cvS196_S98, l0_1, l0_2.map cvS198_S97, a0_3, l0_4) := by
  unfold laws_toKeeper.f
  repeat (first | (refine Ev.bind (toEarlyS_ev _ (by assumption)) ?_; try dsimp only) | (refine Ev.bind (toEntryS_ev _ (by assumption)) ?_; try dsimp only) | (refine Ev.bind (toIntS_ev _ (by assumption)) ?_; try dsimp only))
  exact Ev.now _
theorem toLetter_ev (a0_0 : Bool) (a0_1 : ByteArray) (a0_2 : Bool) (ha0_1 : FitS a0_1) : laws_toLetter.f a0_0 a0_1 a0_2 = some (a0_0, a0_1, a0_2) := rfl
def cvS158_S169 (x : S158) : S169 := ⟨x.f0, x.f1, x.f2⟩
theorem toLetterS_ev (l : List S158) (h : FitL Fit158 l) : Ev (fun k => laws_toLetterS.f k l) (l.map cvS158_S169) := by
  unfold laws_toLetterS.f
  have hl := h.1
  refine Ev.pos (by omega) (Ev.pos (by omega) ?_)
  rw [Int.toNat_natCast]
  refine copy_ev (fun k out i => laws_toLetterS.l0 k l out i) l cvS158_S169 z169 ?_ ?_
  · intro out
    refine Ev.step (fun _ => rfl) ?_
    simp only [laws_toLetterS.l0]; exact Ev.neg (by omega) (Ev.now _)
  · intro i x out r hx ho hh
    have hi := lt_of hx
    have hf := h.2 x (List.mem_of_getElem? hx)
    refine Ev.step (fun _ => rfl) ?_
    simp only [laws_toLetterS.l0]
    rw [rd158 hx, w64 (x := (i : Int) + 1) (by omega) (by omega), Int.toNat_natCast]
    refine Ev.pos (by omega) (Ev.pos (by omega) ?_)
    refine Ev.bindc (toLetter_ev x.f0 x.f1 x.f2 (by first | exact hf | exact hf.1 | exact hf.2 | exact hf.2.1 | exact hf.1.1)) ?_
    first
      | exact Ev.pos (by omega) hh
      | exact hh
theorem toSeen_ev (a0_0 : Int) (a0_1 : Int) (a0_2 : Int) (a0_3 : Bool) : laws_toSeen.f a0_0 a0_1 a0_2 a0_3 = some (a0_0, a0_1, a0_2, a0_3) := rfl
theorem rd172 {l : List S172} {i : Nat} {x : S172} (h : l[i]? = some x) : rd_T172 l (i : Int) = x := by
  unfold rd_T172; simpa using get_of l z172 h
def cvS172_S160 (x : S172) : S160 := ⟨x.f0, x.f1, x.f2, x.f3⟩
theorem toSeenS_ev (l : List S172) (h : FitL Fit172 l) : Ev (fun k => laws_toSeenS.f k l) (l.map cvS172_S160) := by
  unfold laws_toSeenS.f
  have hl := h.1
  refine Ev.pos (by omega) (Ev.pos (by omega) ?_)
  rw [Int.toNat_natCast]
  refine copy_ev (fun k out i => laws_toSeenS.l0 k l out i) l cvS172_S160 z160 ?_ ?_
  · intro out
    refine Ev.step (fun _ => rfl) ?_
    simp only [laws_toSeenS.l0]; exact Ev.neg (by omega) (Ev.now _)
  · intro i x out r hx ho hh
    have hi := lt_of hx
    have hf := h.2 x (List.mem_of_getElem? hx)
    refine Ev.step (fun _ => rfl) ?_
    simp only [laws_toSeenS.l0]
    rw [rd172 hx, w64 (x := (i : Int) + 1) (by omega) (by omega), Int.toNat_natCast]
    refine Ev.pos (by omega) (Ev.pos (by omega) ?_)
    refine Ev.bindc (toSeen_ev x.f0 x.f1 x.f2 x.f3 ) ?_
    first
      | exact Ev.pos (by omega) hh
      | exact hh
theorem toWorld_ev (l0_0 : List (List (List S214))) (l0_1 : List S150) (l0_2 : List S153) (l0_3 : List S196) (l0_4 : List Int) (l0_5 : List S198) (a0_6 : Int) (l0_7 : List Int) (l0_8 : List S158) (a0_9 : Int) (l0_10 : List Int) (l0_11 : List S172) (hl0_0 : (FitL (FitL (FitL Fit214))) l0_0) (hl0_1 : (FitL Fit150) l0_1) (hl0_2 : (FitL Fit153) l0_2) (hl0_3 : (FitL Fit196) l0_3) (hl0_4 : (FitL FitA) l0_4) (hl0_5 : (FitL Fit198) l0_5) (hl0_7 : (FitL FitA) l0_7) (hl0_8 : (FitL Fit158) l0_8) (hl0_10 : (FitL FitA) l0_10) (hl0_11 : (FitL Fit172) l0_11) : Ev (fun k => laws_toWorld.f k l0_0 l0_1 l0_2 l0_3 l0_4 l0_5 a0_6 l0_7 l0_8 a0_9 l0_10 l0_11) (l0_0.map (List.map (List.map cvS214_S212)), l0_1.map cvS150_S164, l0_2.map cvS153_S75, l0_3.map cvS196_S98, l0_4, l0_5.map cvS198_S97, a0_6, l0_7, l0_8.map cvS158_S169, a0_9, l0_10, l0_11.map cvS172_S160) := by
  unfold laws_toWorld.f
  repeat (first | (refine Ev.bind (toInsSSS_ev _ (by assumption)) ?_; try dsimp only) | (refine Ev.bind (toIntS_ev _ (by assumption)) ?_; try dsimp only) | (refine Ev.bind (toKeeper_ev _ _ _ _ _ (by assumption) (by assumption) (by assumption) (by assumption)) ?_; try dsimp only) | (refine Ev.bind (toLetterS_ev _ (by assumption)) ?_; try dsimp only) | (refine Ev.bind (toRingS_ev _ (by assumption)) ?_; try dsimp only) | (refine Ev.bind (toSeenS_ev _ (by assumption)) ?_; try dsimp only) | (refine Ev.bind (toSenderS_ev _ (by assumption)) ?_; try dsimp only))
  exact Ev.now _
theorem eqIns_ev (a0_0 : Int) (a0_1 : Int) (a0_2 : Int) (a0_3 : Int) : laws_eqIns.f a0_0 a0_1 a0_2 a0_3 a0_0 a0_1 a0_2 a0_3 = some true := by simp [laws_eqIns.f]
theorem rd212 {l : List S212} {i : Nat} {x : S212} (h : l[i]? = some x) : rd_T212 l (i : Int) = x := by
  unfold rd_T212; simpa using get_of l z212 h
def Fit212 (x : S212) : Prop := True
theorem eqInsS_ev (l : List S212) (h : FitL Fit212 l) : Ev (fun k => laws_eqInsS.f k l l) true := by
  unfold laws_eqInsS.f
  have hl := h.1
  refine Ev.pos rfl ?_
  refine same_ev (fun k i => laws_eqInsS.l0 k l l i) l ?_ ?_
  · refine Ev.step (fun _ => rfl) ?_
    simp only [laws_eqInsS.l0]; exact Ev.neg (by omega) (Ev.now _)
  · intro i x hx hh
    have hi := lt_of hx
    have hf := h.2 x (List.mem_of_getElem? hx)
    refine Ev.step (fun _ => rfl) ?_
    simp only [laws_eqInsS.l0]
    try rw [rd212 hx]
    rw [w64 (x := (i : Int) + 1) (by omega) (by omega)]
    refine Ev.pos (by omega) (Ev.pos (by omega) (Ev.pos (by omega) ?_))
    refine Ev.bindc (eqIns_ev x.f0 x.f1 x.f2 x.f3 ) ?_
    first
      | exact Ev.pos rfl hh
      | exact Ev.pos (by simp) hh
      | exact Ev.neg (by simp) hh
theorem eqInsSS_ev (l : List (List S212)) (h : FitL (FitL Fit212) l) : Ev (fun k => laws_eqInsSS.f k l l) true := by
  unfold laws_eqInsSS.f
  have hl := h.1
  refine Ev.pos rfl ?_
  refine same_ev (fun k i => laws_eqInsSS.l0 k l l i) l ?_ ?_
  · refine Ev.step (fun _ => rfl) ?_
    simp only [laws_eqInsSS.l0]; exact Ev.neg (by omega) (Ev.now _)
  · intro i x hx hh
    have hi := lt_of hx
    have hf := h.2 x (List.mem_of_getElem? hx)
    refine Ev.step (fun _ => rfl) ?_
    simp only [laws_eqInsSS.l0]
    try rw [rdOfE hx]
    rw [w64 (x := (i : Int) + 1) (by omega) (by omega)]
    refine Ev.pos (by omega) (Ev.pos (by omega) (Ev.pos (by omega) ?_))
    refine Ev.bind (eqInsS_ev x (by first | exact hf | exact hf.1 | exact hf.2 | exact hf.2.1 | exact hf.1.1)) ?_
    first
      | exact Ev.pos rfl hh
      | exact Ev.pos (by simp) hh
      | exact Ev.neg (by simp) hh
theorem eqInsSSS_ev (l : List (List (List S212))) (h : FitL (FitL (FitL Fit212)) l) : Ev (fun k => laws_eqInsSSS.f k l l) true := by
  unfold laws_eqInsSSS.f
  have hl := h.1
  refine Ev.pos rfl ?_
  refine same_ev (fun k i => laws_eqInsSSS.l0 k l l i) l ?_ ?_
  · refine Ev.step (fun _ => rfl) ?_
    simp only [laws_eqInsSSS.l0]; exact Ev.neg (by omega) (Ev.now _)
  · intro i x hx hh
    have hi := lt_of hx
    have hf := h.2 x (List.mem_of_getElem? hx)
    refine Ev.step (fun _ => rfl) ?_
    simp only [laws_eqInsSSS.l0]
    try rw [rdOfE hx]
    rw [w64 (x := (i : Int) + 1) (by omega) (by omega)]
    refine Ev.pos (by omega) (Ev.pos (by omega) (Ev.pos (by omega) ?_))
    refine Ev.bind (eqInsSS_ev x (by first | exact hf | exact hf.1 | exact hf.2 | exact hf.2.1 | exact hf.1.1)) ?_
    first
      | exact Ev.pos rfl hh
      | exact Ev.pos (by simp) hh
      | exact Ev.neg (by simp) hh
theorem eqItem_ev (a0_0 : Int) (a0_1 : Int) (a0_2 : Int) (a0_3 : Int) : laws_eqItem.f a0_0 a0_1 a0_2 a0_3 a0_0 a0_1 a0_2 a0_3 = some true := by simp [laws_eqItem.f]
theorem rd34 {l : List S34} {i : Nat} {x : S34} (h : l[i]? = some x) : rd_T34 l (i : Int) = x := by
  unfold rd_T34; simpa using get_of l z34 h
def Fit34 (x : S34) : Prop := True
theorem eqItemS_ev (l : List S34) (h : FitL Fit34 l) : Ev (fun k => laws_eqItemS.f k l l) true := by
  unfold laws_eqItemS.f
  have hl := h.1
  refine Ev.pos rfl ?_
  refine same_ev (fun k i => laws_eqItemS.l0 k l l i) l ?_ ?_
  · refine Ev.step (fun _ => rfl) ?_
    simp only [laws_eqItemS.l0]; exact Ev.neg (by omega) (Ev.now _)
  · intro i x hx hh
    have hi := lt_of hx
    have hf := h.2 x (List.mem_of_getElem? hx)
    refine Ev.step (fun _ => rfl) ?_
    simp only [laws_eqItemS.l0]
    try rw [rd34 hx]
    rw [w64 (x := (i : Int) + 1) (by omega) (by omega)]
    refine Ev.pos (by omega) (Ev.pos (by omega) (Ev.pos (by omega) ?_))
    refine Ev.bindc (eqItem_ev x.f0 x.f1 x.f2 x.f3 ) ?_
    first
      | exact Ev.pos rfl hh
      | exact Ev.pos (by simp) hh
      | exact Ev.neg (by simp) hh
theorem eqRing_ev (l0_0 : List S34) (a0_1 : Int) (a0_2 : Int) (a0_3 : Int) (hl0_0 : (FitL Fit34) l0_0) : Ev (fun k => laws_eqRing.f k l0_0 a0_1 a0_2 a0_3 l0_0 a0_1 a0_2 a0_3) true := by
  unfold laws_eqRing.f
  repeat (first | refine Ev.pos rfl ?_ | refine Ev.neg (by simp) ?_ | refine Ev.pos (by simp) ?_ | (refine Ev.bind (eqItemS_ev _ (by assumption)) ?_; try dsimp only))
  exact Ev.now _
theorem rd164 {l : List S164} {i : Nat} {x : S164} (h : l[i]? = some x) : rd_T164 l (i : Int) = x := by
  unfold rd_T164; simpa using get_of l z164 h
def Fit164 (x : S164) : Prop := (FitL Fit34) x.f0
theorem eqRingS_ev (l : List S164) (h : FitL Fit164 l) : Ev (fun k => laws_eqRingS.f k l l) true := by
  unfold laws_eqRingS.f
  have hl := h.1
  refine Ev.pos rfl ?_
  refine same_ev (fun k i => laws_eqRingS.l0 k l l i) l ?_ ?_
  · refine Ev.step (fun _ => rfl) ?_
    simp only [laws_eqRingS.l0]; exact Ev.neg (by omega) (Ev.now _)
  · intro i x hx hh
    have hi := lt_of hx
    have hf := h.2 x (List.mem_of_getElem? hx)
    refine Ev.step (fun _ => rfl) ?_
    simp only [laws_eqRingS.l0]
    try rw [rd164 hx]
    rw [w64 (x := (i : Int) + 1) (by omega) (by omega)]
    refine Ev.pos (by omega) (Ev.pos (by omega) (Ev.pos (by omega) ?_))
    refine Ev.bind (eqRing_ev x.f0 x.f1 x.f2 x.f3 (by first | exact hf | exact hf.1 | exact hf.2 | exact hf.2.1 | exact hf.1.1)) ?_
    first
      | exact Ev.pos rfl hh
      | exact Ev.pos (by simp) hh
      | exact Ev.neg (by simp) hh
theorem eqSender_ev (a0_0 : Int) (a0_1 : Int) (l0_2 : List S34) (a0_3 : Int) (a0_4 : Int) (hl0_2 : (FitL Fit34) l0_2) : Ev (fun k => laws_eqSender.f k a0_0 a0_1 l0_2 a0_3 a0_4 a0_0 a0_1 l0_2 a0_3 a0_4) true := by
  unfold laws_eqSender.f
  repeat (first | refine Ev.pos rfl ?_ | refine Ev.neg (by simp) ?_ | refine Ev.pos (by simp) ?_ | (refine Ev.bind (eqItemS_ev _ (by assumption)) ?_; try dsimp only))
  exact Ev.now _
theorem rd75 {l : List S75} {i : Nat} {x : S75} (h : l[i]? = some x) : rd_T75 l (i : Int) = x := by
  unfold rd_T75; simpa using get_of l z75 h
def Fit75 (x : S75) : Prop := (FitL Fit34) x.f2
theorem eqSenderS_ev (l : List S75) (h : FitL Fit75 l) : Ev (fun k => laws_eqSenderS.f k l l) true := by
  unfold laws_eqSenderS.f
  have hl := h.1
  refine Ev.pos rfl ?_
  refine same_ev (fun k i => laws_eqSenderS.l0 k l l i) l ?_ ?_
  · refine Ev.step (fun _ => rfl) ?_
    simp only [laws_eqSenderS.l0]; exact Ev.neg (by omega) (Ev.now _)
  · intro i x hx hh
    have hi := lt_of hx
    have hf := h.2 x (List.mem_of_getElem? hx)
    refine Ev.step (fun _ => rfl) ?_
    simp only [laws_eqSenderS.l0]
    try rw [rd75 hx]
    rw [w64 (x := (i : Int) + 1) (by omega) (by omega)]
    refine Ev.pos (by omega) (Ev.pos (by omega) (Ev.pos (by omega) ?_))
    refine Ev.bind (eqSender_ev x.f0 x.f1 x.f2 x.f3 x.f4 (by first | exact hf | exact hf.1 | exact hf.2 | exact hf.2.1 | exact hf.1.1)) ?_
    first
      | exact Ev.pos rfl hh
      | exact Ev.pos (by simp) hh
      | exact Ev.neg (by simp) hh
theorem eqEntry_ev (a0_0 : Int) (a0_1 : Int) (a0_2 : Int) (a0_3 : Int) (a0_4 : Int) (a0_5 : Int) : laws_eqEntry.f a0_0 a0_1 a0_2 a0_3 a0_4 a0_5 a0_0 a0_1 a0_2 a0_3 a0_4 a0_5 = some true := by simp [laws_eqEntry.f, laws_eqItem.f]
theorem rd98 {l : List S98} {i : Nat} {x : S98} (h : l[i]? = some x) : rd_T98 l (i : Int) = x := by
  unfold rd_T98; simpa using get_of l z98 h
def Fit98 (x : S98) : Prop := Fit34 x.f2
theorem eqEntryS_ev (l : List S98) (h : FitL Fit98 l) : Ev (fun k => laws_eqEntryS.f k l l) true := by
  unfold laws_eqEntryS.f
  have hl := h.1
  refine Ev.pos rfl ?_
  refine same_ev (fun k i => laws_eqEntryS.l0 k l l i) l ?_ ?_
  · refine Ev.step (fun _ => rfl) ?_
    simp only [laws_eqEntryS.l0]; exact Ev.neg (by omega) (Ev.now _)
  · intro i x hx hh
    have hi := lt_of hx
    have hf := h.2 x (List.mem_of_getElem? hx)
    refine Ev.step (fun _ => rfl) ?_
    simp only [laws_eqEntryS.l0]
    try rw [rd98 hx]
    rw [w64 (x := (i : Int) + 1) (by omega) (by omega)]
    refine Ev.pos (by omega) (Ev.pos (by omega) (Ev.pos (by omega) ?_))
    refine Ev.bindc (eqEntry_ev x.f0 x.f1 x.f2.f0 x.f2.f1 x.f2.f2 x.f2.f3 ) ?_
    first
      | exact Ev.pos rfl hh
      | exact Ev.pos (by simp) hh
      | exact Ev.neg (by simp) hh
theorem eqIntS_ev (l : List Int) (h : FitL FitA l) : Ev (fun k => laws_eqIntS.f k l l) true := by
  unfold laws_eqIntS.f
  have hl := h.1
  refine Ev.pos rfl ?_
  refine same_ev (fun k i => laws_eqIntS.l0 k l l i) l ?_ ?_
  · refine Ev.step (fun _ => rfl) ?_
    simp only [laws_eqIntS.l0]; exact Ev.neg (by omega) (Ev.now _)
  · intro i x hx hh
    have hi := lt_of hx
    have hf := h.2 x (List.mem_of_getElem? hx)
    refine Ev.step (fun _ => rfl) ?_
    simp only [laws_eqIntS.l0]
    try rw [rdInt hx]
    rw [w64 (x := (i : Int) + 1) (by omega) (by omega)]
    refine Ev.pos (by omega) (Ev.pos (by omega) (Ev.pos (by omega) ?_))
    
    first
      | exact Ev.pos rfl hh
      | exact Ev.pos (by simp) hh
      | exact Ev.neg (by simp) hh
theorem eqEarly_ev (a0_0 : Int) (a0_1 : Int) (a0_2 : Int) (a0_3 : Int) (a0_4 : Int) (a0_5 : Int) : laws_eqEarly.f a0_0 a0_1 a0_2 a0_3 a0_4 a0_5 a0_0 a0_1 a0_2 a0_3 a0_4 a0_5 = some true := by simp [laws_eqEarly.f, laws_eqItem.f]
theorem rd97 {l : List S97} {i : Nat} {x : S97} (h : l[i]? = some x) : rd_T97 l (i : Int) = x := by
  unfold rd_T97; simpa using get_of l z97 h
def Fit97 (x : S97) : Prop := Fit34 x.f2
theorem eqEarlyS_ev (l : List S97) (h : FitL Fit97 l) : Ev (fun k => laws_eqEarlyS.f k l l) true := by
  unfold laws_eqEarlyS.f
  have hl := h.1
  refine Ev.pos rfl ?_
  refine same_ev (fun k i => laws_eqEarlyS.l0 k l l i) l ?_ ?_
  · refine Ev.step (fun _ => rfl) ?_
    simp only [laws_eqEarlyS.l0]; exact Ev.neg (by omega) (Ev.now _)
  · intro i x hx hh
    have hi := lt_of hx
    have hf := h.2 x (List.mem_of_getElem? hx)
    refine Ev.step (fun _ => rfl) ?_
    simp only [laws_eqEarlyS.l0]
    try rw [rd97 hx]
    rw [w64 (x := (i : Int) + 1) (by omega) (by omega)]
    refine Ev.pos (by omega) (Ev.pos (by omega) (Ev.pos (by omega) ?_))
    refine Ev.bindc (eqEarly_ev x.f0 x.f1 x.f2.f0 x.f2.f1 x.f2.f2 x.f2.f3 ) ?_
    first
      | exact Ev.pos rfl hh
      | exact Ev.pos (by simp) hh
      | exact Ev.neg (by simp) hh
theorem eqKeeper_ev (l0_0 : List S98) (l0_1 : List Int) (l0_2 : List S97) (a0_3 : Int) (l0_4 : List Int) (hl0_0 : (FitL Fit98) l0_0) (hl0_1 : (FitL FitA) l0_1) (hl0_2 : (FitL Fit97) l0_2) (hl0_4 : (FitL FitA) l0_4) : Ev (fun k => laws_eqKeeper.f k l0_0 l0_1 l0_2 a0_3 l0_4 l0_0 l0_1 l0_2 a0_3 l0_4) true := by
  unfold laws_eqKeeper.f
  repeat (first | refine Ev.pos rfl ?_ | refine Ev.neg (by simp) ?_ | refine Ev.pos (by simp) ?_ | (refine Ev.bind (eqEarlyS_ev _ (by assumption)) ?_; try dsimp only) | (refine Ev.bind (eqEntryS_ev _ (by assumption)) ?_; try dsimp only) | (refine Ev.bind (eqIntS_ev _ (by assumption)) ?_; try dsimp only))
  exact Ev.now _
theorem eqLetter_ev (a0_0 : Bool) (a0_1 : ByteArray) (a0_2 : Bool) (ha0_1 : FitS a0_1) : laws_eqLetter.f a0_0 a0_1 a0_2 a0_0 a0_1 a0_2 = some true := by simp [laws_eqLetter.f]
theorem rd169 {l : List S169} {i : Nat} {x : S169} (h : l[i]? = some x) : rd_T169 l (i : Int) = x := by
  unfold rd_T169; simpa using get_of l z169 h
def Fit169 (x : S169) : Prop := FitS x.f1
theorem eqLetterS_ev (l : List S169) (h : FitL Fit169 l) : Ev (fun k => laws_eqLetterS.f k l l) true := by
  unfold laws_eqLetterS.f
  have hl := h.1
  refine Ev.pos rfl ?_
  refine same_ev (fun k i => laws_eqLetterS.l0 k l l i) l ?_ ?_
  · refine Ev.step (fun _ => rfl) ?_
    simp only [laws_eqLetterS.l0]; exact Ev.neg (by omega) (Ev.now _)
  · intro i x hx hh
    have hi := lt_of hx
    have hf := h.2 x (List.mem_of_getElem? hx)
    refine Ev.step (fun _ => rfl) ?_
    simp only [laws_eqLetterS.l0]
    try rw [rd169 hx]
    rw [w64 (x := (i : Int) + 1) (by omega) (by omega)]
    refine Ev.pos (by omega) (Ev.pos (by omega) (Ev.pos (by omega) ?_))
    refine Ev.bindc (eqLetter_ev x.f0 x.f1 x.f2 (by first | exact hf | exact hf.1 | exact hf.2 | exact hf.2.1 | exact hf.1.1)) ?_
    first
      | exact Ev.pos rfl hh
      | exact Ev.pos (by simp) hh
      | exact Ev.neg (by simp) hh
theorem eqSeen_ev (a0_0 : Int) (a0_1 : Int) (a0_2 : Int) (a0_3 : Bool) : laws_eqSeen.f a0_0 a0_1 a0_2 a0_3 a0_0 a0_1 a0_2 a0_3 = some true := by simp [laws_eqSeen.f]
theorem rd160 {l : List S160} {i : Nat} {x : S160} (h : l[i]? = some x) : rd_T160 l (i : Int) = x := by
  unfold rd_T160; simpa using get_of l z160 h
def Fit160 (x : S160) : Prop := True
theorem eqSeenS_ev (l : List S160) (h : FitL Fit160 l) : Ev (fun k => laws_eqSeenS.f k l l) true := by
  unfold laws_eqSeenS.f
  have hl := h.1
  refine Ev.pos rfl ?_
  refine same_ev (fun k i => laws_eqSeenS.l0 k l l i) l ?_ ?_
  · refine Ev.step (fun _ => rfl) ?_
    simp only [laws_eqSeenS.l0]; exact Ev.neg (by omega) (Ev.now _)
  · intro i x hx hh
    have hi := lt_of hx
    have hf := h.2 x (List.mem_of_getElem? hx)
    refine Ev.step (fun _ => rfl) ?_
    simp only [laws_eqSeenS.l0]
    try rw [rd160 hx]
    rw [w64 (x := (i : Int) + 1) (by omega) (by omega)]
    refine Ev.pos (by omega) (Ev.pos (by omega) (Ev.pos (by omega) ?_))
    refine Ev.bindc (eqSeen_ev x.f0 x.f1 x.f2 x.f3 ) ?_
    first
      | exact Ev.pos rfl hh
      | exact Ev.pos (by simp) hh
      | exact Ev.neg (by simp) hh
theorem eqWorld_ev (l0_0 : List (List (List S212))) (l0_1 : List S164) (l0_2 : List S75) (l0_3 : List S98) (l0_4 : List Int) (l0_5 : List S97) (a0_6 : Int) (l0_7 : List Int) (l0_8 : List S169) (a0_9 : Int) (l0_10 : List Int) (l0_11 : List S160) (hl0_0 : (FitL (FitL (FitL Fit212))) l0_0) (hl0_1 : (FitL Fit164) l0_1) (hl0_2 : (FitL Fit75) l0_2) (hl0_3 : (FitL Fit98) l0_3) (hl0_4 : (FitL FitA) l0_4) (hl0_5 : (FitL Fit97) l0_5) (hl0_7 : (FitL FitA) l0_7) (hl0_8 : (FitL Fit169) l0_8) (hl0_10 : (FitL FitA) l0_10) (hl0_11 : (FitL Fit160) l0_11) : Ev (fun k => laws_eqWorld.f k l0_0 l0_1 l0_2 l0_3 l0_4 l0_5 a0_6 l0_7 l0_8 a0_9 l0_10 l0_11 l0_0 l0_1 l0_2 l0_3 l0_4 l0_5 a0_6 l0_7 l0_8 a0_9 l0_10 l0_11) true := by
  unfold laws_eqWorld.f
  repeat (first | refine Ev.pos rfl ?_ | refine Ev.neg (by simp) ?_ | refine Ev.pos (by simp) ?_ | (refine Ev.bind (eqInsSSS_ev _ (by assumption)) ?_; try dsimp only) | (refine Ev.bind (eqIntS_ev _ (by assumption)) ?_; try dsimp only) | (refine Ev.bind (eqKeeper_ev _ _ _ _ _ (by assumption) (by assumption) (by assumption) (by assumption)) ?_; try dsimp only) | (refine Ev.bind (eqLetterS_ev _ (by assumption)) ?_; try dsimp only) | (refine Ev.bind (eqRingS_ev _ (by assumption)) ?_; try dsimp only) | (refine Ev.bind (eqSeenS_ev _ (by assumption)) ?_; try dsimp only) | (refine Ev.bind (eqSenderS_ev _ (by assumption)) ?_; try dsimp only))
  exact Ev.now _
end Go.Proofs.Ytfeaemlakniijaa.PFnExactLogRight
