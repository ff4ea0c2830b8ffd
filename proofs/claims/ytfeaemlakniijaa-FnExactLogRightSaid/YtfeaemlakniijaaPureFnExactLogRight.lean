/- laws.FnExactLogRight returns true at every input, its argument as it was. No condition. -/
import Derived.Test.YtfeaemlakniijaaExFnExactLogRight
import Derived.Test.YtfeaemlakniijaaArgFnExactLogRight
set_option linter.unusedVariables false
set_option linter.unusedSimpArgs false
namespace Go.Proofs.Ytfeaemlakniijaa.PFnExactLogRight
open Go.RowKit Go.Proofs.YtfeaemlakniijaaA Go.Proofs.YtfeaemlakniijaaL Go.Proofs.Ytfeaemlakniijaa.AFnExactLogRight
theorem i64_of {x : Int} (h : OkN .i64 x) : -9223372036854775808 ≤ x ∧ x ≤ 9223372036854775807 := bounds_i64 h
theorem itemok_eq (a b c d : Int) : impl_ItemOk.f a b c d = spec_ItemOk.f a b c d := rfl
def itemOk (x : S34) : Bool := decide ((x.f0 = 1 ∧ (0 ≤ x.f1 ∧ x.f1 ≤ 4294967295) ∧ (0 ≤ x.f2 ∧ x.f2 ≤ 4294967295) ∧ x.f3 = 0) ∨ (x.f0 = 2 ∧ (1 ≤ x.f3 ∧ x.f3 ≤ 1000000000) ∧ x.f1 = 0 ∧ x.f2 = 0))
theorem spec_l01In_of (x lo hi : Int) : spec_l01In.f x lo hi = some (decide (lo ≤ x ∧ x ≤ hi)) := by
  unfold spec_l01In.f
  rw [ite_some]; congr 1; rw [Bool.eq_iff_iff]
  by_cases h : x ≥ lo <;> simp [h] <;> omega
theorem spec_ItemOk_of (x : S34) : spec_ItemOk.f x.f0 x.f1 x.f2 x.f3 = some (itemOk x) := by
  unfold spec_ItemOk.f itemOk spec_HalfOk.f
  simp only [spec_l01In_of, Option.bind_some, ite_some]
  congr 1; rw [Bool.eq_iff_iff]
  by_cases h1 : x.f0 = 1
  · simp [h1]
  · by_cases h2 : x.f0 = 2 <;> simp [h1, h2]
theorem impl_ItemOk_of (x : S34) : impl_ItemOk.f x.f0 x.f1 x.f2 x.f3 = some (itemOk x) := (itemok_eq _ _ _ _).trans (spec_ItemOk_of x)
/-- Where it stands among what came early. -/
theorem early_ev (E : List S97) (hE : E.length ≤ 1048577) (p s : Int) : ∀ (d i : Nat), E.length - i = d → i ≤ E.length → ∃ t : Int, Ev (fun k => spec_l20Early.l0 k E p s (i : Int)) t ∧ Ev (fun k => impl_earlyAt.l0 k E p s (i : Int)) t ∧
    ((t = -1 ∧ ∀ (j : Nat) (x : S97), i ≤ j → E[j]? = some x → ¬ (x.f0 = p ∧ x.f1 = s)) ∨ ∃ (j : Nat) (x : S97), t = j ∧ E[j]? = some x ∧ x.f0 = p ∧ x.f1 = s) := by
  intro d
  induction d with
  | zero =>
    intro i hd hi
    refine ⟨-1, Ev.step (fun _ => rfl) ?_, Ev.step (fun _ => rfl) ?_, .inl ⟨rfl, fun j x hj hx => by have := (List.getElem?_eq_some_iff.1 hx).1; omega⟩⟩
    · simp only [spec_l20Early.l0]; exact Ev.neg (by omega) (Ev.now _)
    · simp only [impl_earlyAt.l0]; exact Ev.neg (by omega) (Ev.now _)
  | succ d ih =>
    intro i hd hi
    have hx : E[i]? = some E[i] := List.getElem?_eq_getElem (by omega)
    by_cases h : E[i].f0 = p ∧ E[i].f1 = s
    · refine ⟨(i : Int), Ev.step (fun _ => rfl) ?_, Ev.step (fun _ => rfl) ?_, .inr ⟨i, E[i], rfl, hx, h.1, h.2⟩⟩
      · simp only [spec_l20Early.l0]; rw [rd97 hx]
        exact Ev.pos (by omega) (Ev.pos (by omega) (Ev.pos h.1 (Ev.pos h.2 (Ev.now _))))
      · simp only [impl_earlyAt.l0]; rw [rd97 hx]
        exact Ev.pos (by omega) (Ev.pos (by omega) (Ev.pos h.1 (Ev.pos h.2 (Ev.now _))))
    · obtain ⟨t, t1, t2, t3⟩ := ih (i + 1) (by omega) (by omega)
      have t4 : (t = -1 ∧ ∀ (j : Nat) (x : S97), i ≤ j → E[j]? = some x → ¬ (x.f0 = p ∧ x.f1 = s)) ∨ ∃ (j : Nat) (x : S97), t = j ∧ E[j]? = some x ∧ x.f0 = p ∧ x.f1 = s := by
        rcases t3 with ⟨h3, h4⟩ | h3
        · refine .inl ⟨h3, fun j x hj hx' => ?_⟩
          by_cases hji : j = i
          · subst hji
            have := hx.symm.trans hx'
            injection this with this
            subst this
            exact h
          · exact h4 j x (by omega) hx'
        · exact .inr h3
      clear t3
      have a1 : (i : Int) < (E.length : Int) := by clear t4; omega
      have a2 : 0 ≤ (i : Int) := by clear t4; omega
      have a3 : wrap64 ((i : Int) + 1) = ((i + 1 : Nat) : Int) := by clear t4; rw [w64 (by omega) (by omega)]; omega
      refine ⟨t, Ev.step (fun _ => rfl) ?_, Ev.step (fun _ => rfl) ?_, t4⟩
      · simp only [spec_l20Early.l0]; rw [rd97 hx, a3]
        exact Ev.pos a1 (Ev.pos a2 (Ev.both (fun h1 => Ev.neg (fun h2 => h ⟨h1, h2⟩) t1) (fun _ => t1)))
      · simp only [impl_earlyAt.l0]; rw [rd97 hx, a3]
        exact Ev.pos a1 (Ev.pos a2 (Ev.both (fun h1 => Ev.neg (fun h2 => h ⟨h1, h2⟩) t2) (fun _ => t2)))
theorem earlyAt_ev (E : List S97) (hE : E.length ≤ 1048577) (p s : Int) : ∃ t : Int, Ev (fun k => spec_l20Early.f k E p s) t ∧ Ev (fun k => impl_earlyAt.f k E p s) t ∧
    ((t = -1 ∧ ∀ (j : Nat) (x : S97), 0 ≤ j → E[j]? = some x → ¬ (x.f0 = p ∧ x.f1 = s)) ∨ ∃ (j : Nat) (x : S97), t = j ∧ E[j]? = some x ∧ x.f0 = p ∧ x.f1 = s) := early_ev E hE p s E.length 0 rfl (by omega)
theorem rd_set (N : List Int) (p v : Int) (h0 : 0 ≤ p) (h1 : p < (N.length : Int)) : rd (N.set p.toNat v) p = v := by
  unfold rd
  rw [List.getD_eq_getElem?_getD, List.getElem?_set_self (by omega)]; rfl
theorem within_of (x lo hi : Int) : impl_within.f x lo hi = some (decide (lo ≤ x ∧ x ≤ hi)) := spec_l01In_of x lo hi
theorem isPid_dec (a : Int) : impl_isPid.f a = some (decide (0 ≤ a ∧ a ≤ 2)) := by
  unfold impl_isPid.f
  rw [within_of]; rfl
abbrev En := S98
abbrev Er := S97
theorem rd_get (c : List Int) (p : Int) (h0 : 0 ≤ p) (h1 : p < (c.length : Int)) : ∃ h : p.toNat < c.length, rd c p = c[p.toNat] := by
  have h : p.toNat < c.length := by omega
  exact ⟨h, by unfold rd; exact get_of c 0 (List.getElem?_eq_getElem h)⟩
theorem rd_mem (c : List Int) (p : Int) (h0 : 0 ≤ p) (h1 : p < (c.length : Int)) : rd c p ∈ c := by
  obtain ⟨h, e⟩ := rd_get c p h0 h1
  rw [e]; exact List.getElem_mem h
theorem rd_set_ne (N : List Int) (p q v : Int) (h0 : 0 ≤ p) (h1 : 0 ≤ q) (h : p ≠ q) : rd (N.set p.toNat v) q = rd N q := by
  unfold rd
  rw [List.getD_eq_getElem?_getD, List.getD_eq_getElem?_getD, List.getElem?_set_ne (by omega)]
def okE (e : En) : Bool := decide (0 ≤ e.f0 ∧ e.f0 ≤ 2) && itemOk e.f2
def bump (c : List Int) (p : Int) : List Int := c.set p.toNat (rd c p + 1)
def good : List En → List Int → Bool
  | [], _ => true
  | e :: L, c => okE e && (e.f1 == rd c e.f0 + 1) && good L (bump c e.f0)
def bumps : List En → List Int → List Int
  | [], c => c
  | e :: L, c => bumps L (bump c e.f0)
def Bd (c : List Int) (i : Nat) : Prop := c.length = 3 ∧ ∀ v ∈ c, 0 ≤ v ∧ v ≤ (i : Int)
theorem Bd.up {c : List Int} {i j : Nat} (h : Bd c i) (hij : i ≤ j) : Bd c j := ⟨h.1, fun v hv => by have := h.2 v hv; omega⟩
theorem Bd.rd {c : List Int} {i : Nat} (h : Bd c i) {p : Int} (h0 : 0 ≤ p) (h1 : p ≤ 2) : 0 ≤ rd c p ∧ rd c p ≤ (i : Int) := h.2 _ (rd_mem c p h0 (by have := h.1; omega))
theorem Bd.bump {c : List Int} {i : Nat} (h : Bd c i) {p : Int} (h0 : 0 ≤ p) (h1 : p ≤ 2) : Bd (bump c p) (i + 1) := by
  refine ⟨by simpa [PFnExactLogRight.bump] using h.1, fun v hv => ?_⟩
  rcases List.mem_or_eq_of_mem_set hv with hv | rfl
  · have := h.2 v hv; omega
  · have := h.rd h0 h1; omega
theorem bd0 : Bd (List.replicate 3 0) 0 := ⟨rfl, fun v hv => by have := List.eq_of_mem_replicate hv; omega⟩
theorem okE_pid {e : En} (h : okE e = true) : 0 ≤ e.f0 ∧ e.f0 ≤ 2 := by
  unfold okE at h; rw [Bool.and_eq_true] at h; simpa using h.1
theorem good_cons (e : En) (L : List En) (c : List Int) : good (e :: L) c = true ↔ okE e = true ∧ e.f1 = rd c e.f0 + 1 ∧ good L (bump c e.f0) = true := by
  simp [good, and_assoc]
theorem good_app (X Y : List En) : ∀ c, good (X ++ Y) c = true ↔ good X c = true ∧ good Y (bumps X c) = true := by
  induction X with
  | nil => intro c; simp [good, bumps]
  | cons e X ih => intro c; rw [List.cons_append, good_cons, good_cons, ih]; simp [bumps, and_assoc]
theorem bumps_app (X Y : List En) : ∀ c, bumps (X ++ Y) c = bumps Y (bumps X c) := by
  induction X with
  | nil => intro c; rfl
  | cons e X ih => intro c; exact ih _
theorem bumps_bd (L : List En) : ∀ (c : List Int) (i : Nat), good L c = true → Bd c i → Bd (bumps L c) (i + L.length) := by
  induction L with
  | nil => intro c i _ h; simpa [bumps] using h
  | cons e L ih =>
    intro c i hg h
    obtain ⟨h1, _, h3⟩ := (good_cons _ _ _).1 hg
    obtain ⟨p0, p1⟩ := okE_pid h1
    have := ih _ _ h3 (h.bump p0 p1)
    exact this.up (by simp; omega)
theorem bumps_le (L : List En) : ∀ (c : List Int) (i : Nat), good L c = true → Bd c i → ∀ p, 0 ≤ p → p ≤ 2 → rd c p ≤ rd (bumps L c) p := by
  induction L with
  | nil => intro c i _ h p _ _; exact Int.le_refl _
  | cons e L ih =>
    intro c i hg h p q0 q1
    obtain ⟨h1, _, h3⟩ := (good_cons _ _ _).1 hg
    obtain ⟨p0, p1⟩ := okE_pid h1
    have h4 := ih _ _ h3 (h.bump p0 p1) p q0 q1
    refine Int.le_trans ?_ h4
    unfold bump
    by_cases hp : e.f0 = p
    · rw [hp, rd_set c p _ q0 (by have := h.1; omega)]; omega
    · rw [rd_set_ne c _ _ _ p0 q0 hp]; exact Int.le_refl _
theorem counts_ev (L : List En) (n : Nat) (hn : n ≤ L.length) (hL : L.length ≤ 1048576) : ∀ (d i : Nat) (c : List Int), n - i = d → i ≤ n → Bd c i →
    ∃ c', Ev (fun k => spec_l20Counts.l0 k L (n : Int) c (i : Int)) (c', good ((L.take n).drop i) c) ∧ (good ((L.take n).drop i) c = true → c' = bumps ((L.take n).drop i) c) := by
  intro d
  induction d with
  | zero =>
    intro i c hd hi hB
    have e0 : (L.take n).drop i = [] := List.drop_eq_nil_of_le (by simp; omega)
    rw [e0]
    refine ⟨c, Ev.step (fun _ => rfl) ?_, fun _ => rfl⟩
    simp only [spec_l20Counts.l0]; exact Ev.neg (by omega) (Ev.now _)
  | succ d ih =>
    intro i c hd hi hB
    have hx : L[i]? = some L[i] := List.getElem?_eq_getElem (by omega)
    have e0 : (L.take n).drop i = L[i] :: (L.take n).drop (i + 1) := by
      rw [List.drop_eq_getElem_cons (by simp; omega), List.getElem_take]
    rw [e0]
    generalize L[i] = e at hx
    by_cases hp : 0 ≤ e.f0 ∧ e.f0 ≤ 2
    · have hr := hB.rd hp.1 hp.2
      by_cases hs : e.f1 = rd c e.f0 + 1
      · cases ho : itemOk e.f2 with
        | true =>
          obtain ⟨c', h1, h2⟩ := ih (i + 1) (bump c e.f0) (by omega) (by omega) (hB.bump hp.1 hp.2)
          have hg : good (e :: (L.take n).drop (i + 1)) c = good ((L.take n).drop (i + 1)) (bump c e.f0) := by simp [good, okE, hp, hs, ho]
          rw [hg]
          refine ⟨c', Ev.step (fun _ => rfl) ?_, h2⟩
          simp only [spec_l20Counts.l0]; rw [rd98 hx, w64 (x := rd c e.f0 + 1) (by omega) (by omega), w64 (x := (i : Int) + 1) (by omega) (by omega), show (i : Int) + 1 = ((i + 1 : Nat) : Int) by omega]
          exact Ev.pos (by omega) (Ev.pos (by omega) (Ev.pos (by omega) (Ev.bindc (spec_l01In_of _ _ _) (Ev.pos (by simpa using hp) (Ev.pos hp.1 (Ev.pos (by have := hB.1; omega) (Ev.pos hs (Ev.bindc (spec_ItemOk_of e.f2) (Ev.pos ho h1)))))))))
        | false =>
          have hg : good (e :: (L.take n).drop (i + 1)) c = false := by simp [good, okE, ho]
          rw [hg]
          refine ⟨c, Ev.step (fun _ => rfl) ?_, fun h => by cases h⟩
          simp only [spec_l20Counts.l0]; rw [rd98 hx, w64 (x := rd c e.f0 + 1) (by omega) (by omega)]
          exact Ev.pos (by omega) (Ev.pos (by omega) (Ev.pos (by omega) (Ev.bindc (spec_l01In_of _ _ _) (Ev.pos (by simpa using hp) (Ev.pos hp.1 (Ev.pos (by have := hB.1; omega) (Ev.pos hs (Ev.bindc (spec_ItemOk_of e.f2) (Ev.neg (by simp [ho]) (Ev.now _))))))))))
      · have hg : good (e :: (L.take n).drop (i + 1)) c = false := by simp [good, hs]
        rw [hg]
        refine ⟨c, Ev.step (fun _ => rfl) ?_, fun h => by cases h⟩
        simp only [spec_l20Counts.l0]; rw [rd98 hx, w64 (x := rd c e.f0 + 1) (by omega) (by omega)]
        exact Ev.pos (by omega) (Ev.pos (by omega) (Ev.pos (by omega) (Ev.bindc (spec_l01In_of _ _ _) (Ev.pos (by simpa using hp) (Ev.pos hp.1 (Ev.pos (by have := hB.1; omega) (Ev.neg hs (Ev.now _))))))))
    · have hg : good (e :: (L.take n).drop (i + 1)) c = false := by simp [good, okE, hp]
      rw [hg]
      refine ⟨c, Ev.step (fun _ => rfl) ?_, fun h => by cases h⟩
      simp only [spec_l20Counts.l0]; rw [rd98 hx]
      exact Ev.pos (by omega) (Ev.pos (by omega) (Ev.pos (by omega) (Ev.bindc (spec_l01In_of _ _ _) (Ev.neg (by simpa using hp) (Ev.now _)))))
/-- What the program's own counting tells, in one pass. -/
theorem many_ev (L : List En) (N : List Int) (E : List Er) (s : Int) (A : List Int) (hs0 : 0 ≤ s) (hs1 : s ≤ (L.length : Int)) (hL : L.length ≤ 1048576) : ∀ (d i : Nat) (c c5 : List Int), L.length - i = d → i ≤ L.length → Bd c i → Bd c5 i →
    (good (L.drop i) c = false → Ev (fun k => impl_KeeperOk.l1 k L N E s A c c5 (i : Int)) false) ∧
    (good (L.drop i) c = true → ∀ r, Ev (fun k => impl_KeeperOk.l2 k L N E s A (bumps (L.drop i) c) (bumps ((L.take s.toNat).drop i) c5) 0) r → Ev (fun k => impl_KeeperOk.l1 k L N E s A c c5 (i : Int)) r) := by
  intro d
  induction d with
  | zero =>
    intro i c c5 hd hi hB hB5
    have e0 : L.drop i = [] := List.drop_eq_nil_of_le (by omega)
    have e1 : (L.take s.toNat).drop i = [] := List.drop_eq_nil_of_le (by simp; omega)
    rw [e0, e1]
    refine ⟨fun h => absurd h (by simp [good]), fun _ r hr => Ev.step (fun _ => rfl) ?_⟩
    simp only [impl_KeeperOk.l1]; exact Ev.neg (by omega) hr
  | succ d ih =>
    intro i c c5 hd hi hB hB5
    have hx : L[i]? = some L[i] := List.getElem?_eq_getElem (by omega)
    have e0 : L.drop i = L[i] :: L.drop (i + 1) := List.drop_eq_getElem_cons (by omega)
    have e1 : (i : Int) < s → (L.take s.toNat).drop i = L[i] :: (L.take s.toNat).drop (i + 1) := by
      intro h
      rw [List.drop_eq_getElem_cons (by simp; omega), List.getElem_take]
    have e2 : ¬ (i : Int) < s → (L.take s.toNat).drop i = [] ∧ (L.take s.toNat).drop (i + 1) = [] := fun h => ⟨List.drop_eq_nil_of_le (by simp; omega), List.drop_eq_nil_of_le (by simp; omega)⟩
    rw [e0]
    generalize L[i] = e at hx e1
    have hi1 : wrap64 ((i : Int) + 1) = ((i + 1 : Nat) : Int) := by rw [w64 (by omega) (by omega)]; omega
    by_cases hp : 0 ≤ e.f0 ∧ e.f0 ≤ 2
    · have hr := hB.rd hp.1 hp.2
      have hr5 := hB5.rd hp.1 hp.2
      have l3 := hB.1
      have l5 := hB5.1
      cases ho : itemOk e.f2 with
      | true =>
        have hst : ∀ (u : Nat → Option Bool) r, (∀ k, u k = if (i : Int) < s then (if e.f0 < (c5.length : Int) then impl_KeeperOk.j0 k L N E s A c (i : Int) (bump c5 e.f0) else none) else impl_KeeperOk.j0 k L N E s A c (i : Int) c5) → Ev u r → Ev (fun k => impl_KeeperOk.l1 k L N E s A c c5 (i : Int)) r := by
          intro u r hu h
          refine Ev.step (fun _ => rfl) ?_
          simp only [impl_KeeperOk.l1]; rw [rd98 hx, w64 (x := rd c5 e.f0 + 1) (by omega) (by omega)]
          refine Ev.pos (by omega) (Ev.pos (by omega) (Ev.bindc (isPid_dec _) (Ev.pos (by simpa using hp) (Ev.bindc (impl_ItemOk_of e.f2) ?_))))
          rw [ho]
          exact Ev.pos rfl (Ev.pos hp.1 (Ev.pos (by omega) (Ev.pos (by omega) (Ev.congr (fun k => (hu k).symm) h))))
        by_cases hs : e.f1 = rd c e.f0 + 1
        · have hg : good (e :: L.drop (i + 1)) c = good (L.drop (i + 1)) (bump c e.f0) := by simp [good, okE, hp, hs, ho]
          rw [hg]
          have hj : ∀ c6 r, Ev (fun k => impl_KeeperOk.l1 k L N E s A (bump c e.f0) c6 ((i + 1 : Nat) : Int)) r → Ev (fun k => impl_KeeperOk.j0 k L N E s A c (i : Int) c6) r := by
            intro c6 r h
            refine Ev.step (fun _ => rfl) ?_
            simp only [impl_KeeperOk.j0]; rw [rd98 hx, w64 (x := rd c e.f0 + 1) (by omega) (by omega), hi1]
            exact Ev.pos (by first | omega | (simp; omega)) (Ev.pos (by rw [rd_set c _ _ hp.1 (by omega)]; exact hs) h)
          by_cases h6 : (i : Int) < s
          · obtain ⟨g1, g2⟩ := ih (i + 1) (bump c e.f0) (bump c5 e.f0) (by omega) (by omega) (hB.bump hp.1 hp.2) (hB5.bump hp.1 hp.2)
            have hk : ∀ r, Ev (fun k => impl_KeeperOk.l1 k L N E s A (bump c e.f0) (bump c5 e.f0) ((i + 1 : Nat) : Int)) r → Ev (fun k => impl_KeeperOk.l1 k L N E s A c c5 (i : Int)) r := fun r h => hst _ r (fun _ => rfl) (Ev.pos h6 (Ev.pos (by omega) (hj _ _ h)))
            refine ⟨fun h => hk _ (g1 h), fun h r hr => hk _ (g2 h r ?_)⟩
            rw [e1 h6] at hr
            exact hr
          · obtain ⟨g1, g2⟩ := ih (i + 1) (bump c e.f0) c5 (by omega) (by omega) (hB.bump hp.1 hp.2) (hB5.up (by omega))
            have hk : ∀ r, Ev (fun k => impl_KeeperOk.l1 k L N E s A (bump c e.f0) c5 ((i + 1 : Nat) : Int)) r → Ev (fun k => impl_KeeperOk.l1 k L N E s A c c5 (i : Int)) r := fun r h => hst _ r (fun _ => rfl) (Ev.neg h6 (hj _ _ h))
            refine ⟨fun h => hk _ (g1 h), fun h r hr => hk _ (g2 h r ?_)⟩
            rw [(e2 h6).1] at hr
            rw [(e2 h6).2]
            exact hr
        · have hg : good (e :: L.drop (i + 1)) c = false := by simp [good, hs]
          rw [hg]
          have hj : ∀ c6, Ev (fun k => impl_KeeperOk.j0 k L N E s A c (i : Int) c6) false := by
            intro c6
            refine Ev.step (fun _ => rfl) ?_
            simp only [impl_KeeperOk.j0]; rw [rd98 hx, w64 (x := rd c e.f0 + 1) (by omega) (by omega)]
            exact Ev.pos (by first | omega | (simp; omega)) (Ev.neg (by rw [rd_set c _ _ hp.1 (by omega)]; exact hs) (Ev.now _))
          exact ⟨fun _ => hst _ _ (fun _ => rfl) (Ev.both (fun _ => Ev.pos (by omega) (hj _)) (fun _ => hj _)), fun h => by cases h⟩
      | false =>
        have hg : good (e :: L.drop (i + 1)) c = false := by simp [good, okE, ho]
        rw [hg]
        refine ⟨fun _ => Ev.step (fun _ => rfl) ?_, fun h => by cases h⟩
        simp only [impl_KeeperOk.l1]; rw [rd98 hx]
        refine Ev.pos (by omega) (Ev.pos (by omega) (Ev.bindc (isPid_dec _) (Ev.pos (by simpa using hp) (Ev.bindc (impl_ItemOk_of e.f2) ?_))))
        rw [ho]
        exact Ev.neg (by simp) (Ev.now _)
    · have hg : good (e :: L.drop (i + 1)) c = false := by simp [good, okE, hp]
      rw [hg]
      refine ⟨fun _ => Ev.step (fun _ => rfl) ?_, fun h => by cases h⟩
      simp only [impl_KeeperOk.l1]; rw [rd98 hx]
      exact Ev.pos (by omega) (Ev.pos (by omega) (Ev.bindc (isPid_dec _) (Ev.neg (by simpa using hp) (Ev.now _))))
def Q3 (N A m sv : List Int) (i : Nat) : Prop := ∀ j : Nat, i ≤ j → j < 3 → rd N (j : Int) = rd m (j : Int) + 1 ∧ rd A (j : Int) = rd sv (j : Int) + 1
def W3 (N A : List Int) (i : Nat) : Prop := ∀ j : Nat, i ≤ j → j < 3 → (1 ≤ rd N (j : Int) ∧ rd N (j : Int) ≤ 1000000000) ∧ 1 ≤ rd A (j : Int) ∧ rd A (j : Int) ≤ rd N (j : Int)
section
variable (L : List En) (N : List Int) (E : List Er) (s : Int) (A : List Int)
theorem specCmp_ev (m sv : List Int) (hN : N.length = 3) (hA : A.length = 3) (bm : Bd m 1048576) (bs : Bd sv 1048576) : ∀ (d i : Nat), 3 - i = d → i ≤ 3 →
    (Q3 N A m sv i → ∀ r, Ev (fun k => spec_KeeperOk.l1 k L N E s A 0) r → Ev (fun k => spec_KeeperOk.l0 k L N E s A (m, true) (sv, true) (i : Int)) r) ∧ (¬ Q3 N A m sv i → Ev (fun k => spec_KeeperOk.l0 k L N E s A (m, true) (sv, true) (i : Int)) false) := by
  intro d
  induction d with
  | zero =>
    intro i hd hi
    refine ⟨fun _ r hr => Ev.step (fun _ => rfl) ?_, fun h => (h fun j h1 h2 => by omega).elim⟩
    simp only [spec_KeeperOk.l0]; exact Ev.neg (by omega) hr
  | succ d ih =>
    intro i hd hi
    obtain ⟨g1, g2⟩ := ih (i + 1) (by omega) (by omega)
    have b1 := bm.rd (p := (i : Int)) (by omega) (by omega)
    have b2 := bs.rd (p := (i : Int)) (by omega) (by omega)
    have l1 := bm.1
    have l2 := bs.1
    have hq : Q3 N A m sv i ↔ (rd N (i : Int) = rd m (i : Int) + 1 ∧ rd A (i : Int) = rd sv (i : Int) + 1) ∧ Q3 N A m sv (i + 1) := by
      refine ⟨fun h => ⟨h i (Nat.le_refl _) (by omega), fun j h1 h2 => h j (by omega) h2⟩, fun h j h1 h2 => ?_⟩
      rcases Nat.eq_or_lt_of_le h1 with rfl | h3
      · exact h.1
      · exact h.2 j h3 h2
    have hst : ∀ r, (rd N (i : Int) = rd m (i : Int) + 1 ∧ rd A (i : Int) = rd sv (i : Int) + 1) → Ev (fun k => spec_KeeperOk.l0 k L N E s A (m, true) (sv, true) ((i + 1 : Nat) : Int)) r → Ev (fun k => spec_KeeperOk.l0 k L N E s A (m, true) (sv, true) (i : Int)) r := by
      intro r h hr
      refine Ev.step (fun _ => rfl) ?_
      simp only [spec_KeeperOk.l0]; rw [w64 (x := rd m (i : Int) + 1) (by omega) (by omega), w64 (x := rd sv (i : Int) + 1) (by omega) (by omega), w64 (x := (i : Int) + 1) (by omega) (by omega), show (i : Int) + 1 = ((i + 1 : Nat) : Int) by omega]
      exact Ev.pos (by omega) (Ev.pos (by omega) (Ev.pos (by omega) (Ev.pos (by omega) (Ev.pos h.1 (Ev.pos (by omega) (Ev.pos (by omega) (Ev.pos h.2 hr)))))))
    have hsf : ¬ (rd N (i : Int) = rd m (i : Int) + 1 ∧ rd A (i : Int) = rd sv (i : Int) + 1) → Ev (fun k => spec_KeeperOk.l0 k L N E s A (m, true) (sv, true) (i : Int)) false := by
      intro h
      refine Ev.step (fun _ => rfl) ?_
      simp only [spec_KeeperOk.l0]; rw [w64 (x := rd m (i : Int) + 1) (by omega) (by omega), w64 (x := rd sv (i : Int) + 1) (by omega) (by omega)]
      exact Ev.pos (by omega) (Ev.pos (by omega) (Ev.pos (by omega) (Ev.pos (by omega) (Ev.both (fun h1 => Ev.pos (by omega) (Ev.pos (by omega) (Ev.neg (fun h2 => h ⟨h1, h2⟩) (Ev.now _)))) (fun _ => Ev.now _)))))
    refine ⟨fun h r hr => hst r (hq.1 h).1 (g1 (hq.1 h).2 r hr), fun h => ?_⟩
    by_cases h1 : rd N (i : Int) = rd m (i : Int) + 1 ∧ rd A (i : Int) = rd sv (i : Int) + 1
    · exact hst _ h1 (g2 fun h2 => h (hq.2 ⟨h1, h2⟩))
    · exact hsf h1
theorem wrapm {n m : Int} (hn : -9223372036854775808 ≤ n ∧ n ≤ 9223372036854775807) (hm : 0 ≤ m ∧ m ≤ 1048576) : m = wrap64 (n - 1) ↔ n = m + 1 := by
  unfold wrap64; omega
theorem implCmp_ev (m sv : List Int) (hN : N.length = 3) (hA : A.length = 3) (bm : Bd m 1048576) (bs : Bd sv 1048576) (bN : ∀ v ∈ N, -9223372036854775808 ≤ v ∧ v ≤ 9223372036854775807) (bA : ∀ v ∈ A, -9223372036854775808 ≤ v ∧ v ≤ 9223372036854775807) : ∀ (d i : Nat), 3 - i = d → i ≤ 3 →
    (Q3 N A m sv i → ∀ r, Ev (fun k => impl_KeeperOk.l3 k L N E s A 0) r → Ev (fun k => impl_KeeperOk.l2 k L N E s A m sv (i : Int)) r) ∧ (¬ Q3 N A m sv i → Ev (fun k => impl_KeeperOk.l2 k L N E s A m sv (i : Int)) false) := by
  intro d
  induction d with
  | zero =>
    intro i hd hi
    refine ⟨fun _ r hr => Ev.step (fun _ => rfl) ?_, fun h => (h fun j h1 h2 => by omega).elim⟩
    simp only [impl_KeeperOk.l2]; exact Ev.neg (by omega) hr
  | succ d ih =>
    intro i hd hi
    obtain ⟨g1, g2⟩ := ih (i + 1) (by omega) (by omega)
    have b1 := bm.rd (p := (i : Int)) (by omega) (by omega)
    have b2 := bs.rd (p := (i : Int)) (by omega) (by omega)
    have l1 := bm.1
    have l2 := bs.1
    have v1 := bN _ (rd_mem N (i : Int) (by omega) (by omega))
    have v2 := bA _ (rd_mem A (i : Int) (by omega) (by omega))
    have hq : Q3 N A m sv i ↔ (rd N (i : Int) = rd m (i : Int) + 1 ∧ rd A (i : Int) = rd sv (i : Int) + 1) ∧ Q3 N A m sv (i + 1) := by
      refine ⟨fun h => ⟨h i (Nat.le_refl _) (by omega), fun j h1 h2 => h j (by omega) h2⟩, fun h j h1 h2 => ?_⟩
      rcases Nat.eq_or_lt_of_le h1 with rfl | h3
      · exact h.1
      · exact h.2 j h3 h2
    have hst : ∀ r, (rd N (i : Int) = rd m (i : Int) + 1 ∧ rd A (i : Int) = rd sv (i : Int) + 1) → Ev (fun k => impl_KeeperOk.l2 k L N E s A m sv ((i + 1 : Nat) : Int)) r → Ev (fun k => impl_KeeperOk.l2 k L N E s A m sv (i : Int)) r := by
      intro r h hr
      refine Ev.step (fun _ => rfl) ?_
      simp only [impl_KeeperOk.l2]; rw [w64 (x := (i : Int) + 1) (by omega) (by omega), show (i : Int) + 1 = ((i + 1 : Nat) : Int) by omega]
      exact Ev.pos (by omega) (Ev.pos (by omega) (Ev.pos (by omega) (Ev.pos (by omega) (Ev.pos ((wrapm v1 b1).2 h.1) (Ev.pos (by omega) (Ev.pos (by omega) (Ev.pos ((wrapm v2 b2).2 h.2) hr)))))))
    have hsf : ¬ (rd N (i : Int) = rd m (i : Int) + 1 ∧ rd A (i : Int) = rd sv (i : Int) + 1) → Ev (fun k => impl_KeeperOk.l2 k L N E s A m sv (i : Int)) false := by
      intro h
      refine Ev.step (fun _ => rfl) ?_
      simp only [impl_KeeperOk.l2]
      exact Ev.pos (by omega) (Ev.pos (by omega) (Ev.pos (by omega) (Ev.pos (by omega) (Ev.both (fun h1 => Ev.pos (by omega) (Ev.pos (by omega) (Ev.neg (fun h2 => h ⟨(wrapm v1 b1).1 h1, (wrapm v2 b2).1 h2⟩) (Ev.now _)))) (fun _ => Ev.now _)))))
    refine ⟨fun h r hr => hst r (hq.1 h).1 (g1 (hq.1 h).2 r hr), fun h => ?_⟩
    by_cases h1 : rd N (i : Int) = rd m (i : Int) + 1 ∧ rd A (i : Int) = rd sv (i : Int) + 1
    · exact hst _ h1 (g2 fun h2 => h (hq.2 ⟨h1, h2⟩))
    · exact hsf h1
theorem implIn_ev (hN : N.length = 3) (hA : A.length = 3) : ∀ (d i : Nat), 3 - i = d → i ≤ 3 →
    (W3 N A i → ∀ r, Ev (fun k => impl_KeeperOk.l1 k L N E s A (List.replicate 3 0) (List.replicate 3 0) 0) r → Ev (fun k => impl_KeeperOk.l0 k L N E s A (i : Int)) r) ∧ (¬ W3 N A i → Ev (fun k => impl_KeeperOk.l0 k L N E s A (i : Int)) false) := by
  intro d
  induction d with
  | zero =>
    intro i hd hi
    refine ⟨fun _ r hr => Ev.step (fun _ => rfl) ?_, fun h => (h fun j h1 h2 => by omega).elim⟩
    simp only [impl_KeeperOk.l0]; exact Ev.neg (by omega) hr
  | succ d ih =>
    intro i hd hi
    obtain ⟨g1, g2⟩ := ih (i + 1) (by omega) (by omega)
    have hq : W3 N A i ↔ ((1 ≤ rd N (i : Int) ∧ rd N (i : Int) ≤ 1000000000) ∧ 1 ≤ rd A (i : Int) ∧ rd A (i : Int) ≤ rd N (i : Int)) ∧ W3 N A (i + 1) := by
      refine ⟨fun h => ⟨h i (Nat.le_refl _) (by omega), fun j h1 h2 => h j (by omega) h2⟩, fun h j h1 h2 => ?_⟩
      rcases Nat.eq_or_lt_of_le h1 with rfl | h3
      · exact h.1
      · exact h.2 j h3 h2
    have hst : ∀ r, ((1 ≤ rd N (i : Int) ∧ rd N (i : Int) ≤ 1000000000) ∧ 1 ≤ rd A (i : Int) ∧ rd A (i : Int) ≤ rd N (i : Int)) → Ev (fun k => impl_KeeperOk.l0 k L N E s A ((i + 1 : Nat) : Int)) r → Ev (fun k => impl_KeeperOk.l0 k L N E s A (i : Int)) r := by
      intro r h hr
      refine Ev.step (fun _ => rfl) ?_
      simp only [impl_KeeperOk.l0]; rw [w64 (x := (i : Int) + 1) (by omega) (by omega), show (i : Int) + 1 = ((i + 1 : Nat) : Int) by omega]
      exact Ev.pos (by omega) (Ev.pos (by omega) (Ev.pos (by omega) (Ev.bindc (within_of _ _ _) (Ev.pos (by simpa using h.1) (Ev.pos (by omega) (Ev.bindc (within_of _ _ _) (Ev.pos (by simpa using h.2) hr)))))))
    have hsf : ¬ ((1 ≤ rd N (i : Int) ∧ rd N (i : Int) ≤ 1000000000) ∧ 1 ≤ rd A (i : Int) ∧ rd A (i : Int) ≤ rd N (i : Int)) → Ev (fun k => impl_KeeperOk.l0 k L N E s A (i : Int)) false := by
      intro h
      refine Ev.step (fun _ => rfl) ?_
      simp only [impl_KeeperOk.l0]
      refine Ev.pos (by omega) (Ev.pos (by omega) (Ev.pos (by omega) (Ev.bindc (within_of _ _ _) (Ev.both (fun h1 => Ev.pos (by omega) (Ev.bindc (within_of _ _ _) (Ev.neg (fun h2 => h ⟨of_decide_eq_true h1, of_decide_eq_true h2⟩) (Ev.now _)))) (fun _ => Ev.now _)))))
    refine ⟨fun h r hr => hst r (hq.1 h).1 (g1 (hq.1 h).2 r hr), fun h => ?_⟩
    by_cases h1 : (1 ≤ rd N (i : Int) ∧ rd N (i : Int) ≤ 1000000000) ∧ 1 ≤ rd A (i : Int) ∧ rd A (i : Int) ≤ rd N (i : Int)
    · exact hst _ h1 (g2 fun h2 => h (hq.2 ⟨h1, h2⟩))
    · exact hsf h1
theorem earlies_ev (hN : N.length = 3) (hE : E.length ≤ 1048577) (bN : ∀ v ∈ N, 0 ≤ v ∧ v ≤ 2000000) : ∀ (d i : Nat), E.length - i = d → i ≤ E.length →
    ∃ r : Bool, Ev (fun k => spec_KeeperOk.l1 k L N E s A (i : Int)) r ∧ Ev (fun k => impl_KeeperOk.l3 k L N E s A (i : Int)) r := by
  intro d
  induction d with
  | zero =>
    intro i hd hi
    refine ⟨true, Ev.step (fun _ => rfl) ?_, Ev.step (fun _ => rfl) ?_⟩
    · simp only [spec_KeeperOk.l1]; exact Ev.neg (by omega) (Ev.now _)
    · simp only [impl_KeeperOk.l3]; exact Ev.neg (by omega) (Ev.now _)
  | succ d ih =>
    intro i hd hi
    have hx : E[i]? = some E[i] := List.getElem?_eq_getElem (by omega)
    generalize E[i] = e at hx
    have hi1 : wrap64 ((i : Int) + 1) = ((i + 1 : Nat) : Int) := by rw [w64 (by omega) (by omega)]; omega
    by_cases hp : 0 ≤ e.f0 ∧ e.f0 ≤ 2
    · have hv := bN _ (rd_mem N e.f0 hp.1 (by omega))
      have hw : wrap64 (rd N e.f0 + 1) = rd N e.f0 + 1 := w64 (by omega) (by omega)
      by_cases hq : rd N e.f0 + 1 ≤ e.f1 ∧ e.f1 ≤ 1000000000
      · cases ho : itemOk e.f2 with
        | true =>
          obtain ⟨t, t1, t2, -⟩ := earlyAt_ev (E.take i) (by simp; omega) e.f0 e.f1
          have hsp : ∀ (u : Nat → Option Bool) r, (∀ k, u k = if t ≥ 0 then some false else spec_KeeperOk.l1 k L N E s A ((i + 1 : Nat) : Int)) → Ev u r → Ev (fun k => spec_KeeperOk.l1 k L N E s A (i : Int)) r := by
            intro u r hu h
            refine Ev.step (fun _ => rfl) ?_
            simp only [spec_KeeperOk.l1]; rw [rd97 hx, hw, hi1, Int.toNat_natCast]
            exact Ev.pos (by omega) (Ev.pos (by omega) (Ev.bindc (spec_l01In_of _ _ _) (Ev.pos (by simpa using hp) (Ev.pos hp.1 (Ev.pos (by omega) (Ev.bindc (spec_l01In_of _ _ _) (Ev.pos (by simpa using hq) (Ev.bindc (spec_ItemOk_of e.f2) (Ev.pos ho (Ev.pos (by omega) (Ev.bind t1 (Ev.congr (fun k => (hu k).symm) h))))))))))))
          have him : ∀ (u : Nat → Option Bool) r, (∀ k, u k = if t ≥ 0 then some false else impl_KeeperOk.l3 k L N E s A ((i + 1 : Nat) : Int)) → Ev u r → Ev (fun k => impl_KeeperOk.l3 k L N E s A (i : Int)) r := by
            intro u r hu h
            refine Ev.step (fun _ => rfl) ?_
            simp only [impl_KeeperOk.l3]; rw [rd97 hx, hi1, Int.toNat_natCast]
            exact Ev.pos (by omega) (Ev.pos (by omega) (Ev.bindc (isPid_dec _) (Ev.pos (by simpa using hp) (Ev.bindc (impl_ItemOk_of e.f2) (Ev.pos ho (Ev.pos hp.1 (Ev.pos (by omega) (Ev.neg (by omega) (Ev.neg (by omega) (Ev.pos (by omega) (Ev.bind t2 (Ev.congr (fun k => (hu k).symm) h))))))))))))
          by_cases ht : t ≥ 0
          · exact ⟨false, hsp _ _ (fun _ => rfl) (Ev.pos ht (Ev.now _)), him _ _ (fun _ => rfl) (Ev.pos ht (Ev.now _))⟩
          · obtain ⟨r, r1, r2⟩ := ih (i + 1) (by omega) (by omega)
            exact ⟨r, hsp _ _ (fun _ => rfl) (Ev.neg ht r1), him _ _ (fun _ => rfl) (Ev.neg ht r2)⟩
        | false =>
          refine ⟨false, Ev.step (fun _ => rfl) ?_, Ev.step (fun _ => rfl) ?_⟩
          · simp only [spec_KeeperOk.l1]; rw [rd97 hx, hw]
            exact Ev.pos (by omega) (Ev.pos (by omega) (Ev.bindc (spec_l01In_of _ _ _) (Ev.pos (by simpa using hp) (Ev.pos hp.1 (Ev.pos (by omega) (Ev.bindc (spec_l01In_of _ _ _) (Ev.pos (by simpa using hq) (Ev.bindc (spec_ItemOk_of e.f2) (Ev.neg (by simp [ho]) (Ev.now _))))))))))
          · simp only [impl_KeeperOk.l3]; rw [rd97 hx]
            exact Ev.pos (by omega) (Ev.pos (by omega) (Ev.bindc (isPid_dec _) (Ev.pos (by simpa using hp) (Ev.bindc (impl_ItemOk_of e.f2) (Ev.neg (by simp [ho]) (Ev.now _))))))
      · refine ⟨false, Ev.step (fun _ => rfl) ?_, Ev.step (fun _ => rfl) ?_⟩
        · simp only [spec_KeeperOk.l1]; rw [rd97 hx, hw]
          exact Ev.pos (by omega) (Ev.pos (by omega) (Ev.bindc (spec_l01In_of _ _ _) (Ev.pos (by simpa using hp) (Ev.pos hp.1 (Ev.pos (by omega) (Ev.bindc (spec_l01In_of _ _ _) (Ev.neg (by simpa using hq) (Ev.now _))))))))
        · simp only [impl_KeeperOk.l3]; rw [rd97 hx]
          refine Ev.pos (by omega) (Ev.pos (by omega) (Ev.bindc (isPid_dec _) (Ev.pos (by simpa using hp) (Ev.bindc (impl_ItemOk_of e.f2) (Ev.both (fun _ => Ev.pos hp.1 (Ev.pos (by omega) (Ev.both (fun _ => Ev.now _) (fun h1 => Ev.pos (by omega) (Ev.now _))))) (fun _ => Ev.now _))))))
    · refine ⟨false, Ev.step (fun _ => rfl) ?_, Ev.step (fun _ => rfl) ?_⟩
      · simp only [spec_KeeperOk.l1]; rw [rd97 hx]
        exact Ev.pos (by omega) (Ev.pos (by omega) (Ev.bindc (spec_l01In_of _ _ _) (Ev.neg (by simpa using hp) (Ev.now _))))
      · simp only [impl_KeeperOk.l3]; rw [rd97 hx]
        exact Ev.pos (by omega) (Ev.pos (by omega) (Ev.bindc (isPid_dec _) (Ev.neg (by simpa using hp) (Ev.now _))))
theorem keeperOk_core (hN : N.length = 3) (hA : A.length = 3) (hL : L.length ≤ 200) (hs0 : 0 ≤ s) (hs1 : s ≤ (L.length : Int)) (hE : E.length ≤ 1048576) (bN : ∀ v ∈ N, -9223372036854775808 ≤ v ∧ v ≤ 9223372036854775807) (bA : ∀ v ∈ A, -9223372036854775808 ≤ v ∧ v ≤ 9223372036854775807) :
    ∃ r : Bool, Ev (fun k => (spec_l20Counts.f k L (L.length : Int)).bind fun t8 => (spec_l20Counts.f k L s).bind fun t10 => if t8.2 = true then (if t10.2 = true then spec_KeeperOk.l0 k L N E s A t8 t10 0 else some false) else some false) r ∧ Ev (fun k => impl_KeeperOk.l0 k L N E s A 0) r := by
  obtain ⟨c1, f1, f2⟩ := counts_ev L L.length (Nat.le_refl _) (by omega) _ 0 _ rfl (by omega) bd0
  obtain ⟨c2, f3, f4⟩ := counts_ev L s.toNat (by omega) (by omega) _ 0 _ rfl (by omega) bd0
  rw [List.take_length] at f1 f2
  rw [List.drop_zero] at f1 f2 f3 f4
  rw [show ((s.toNat : Nat) : Int) = s by omega] at f3
  have F1 : Ev (fun k => spec_l20Counts.f k L (L.length : Int)) (c1, good L (List.replicate 3 0)) := by unfold spec_l20Counts.f; exact f1
  have F3 : Ev (fun k => spec_l20Counts.f k L s) (c2, good (L.take s.toNat) (List.replicate 3 0)) := by unfold spec_l20Counts.f; exact f3
  obtain ⟨m1, m2⟩ := many_ev L N E s A hs0 hs1 (by omega) _ 0 _ _ rfl (by omega) bd0 bd0
  rw [List.drop_zero] at m1 m2
  rw [List.drop_zero] at m2
  obtain ⟨i1, i2⟩ := implIn_ev L N E s A hN hA _ 0 rfl (by omega)
  have hF : (¬ W3 N A 0 ∨ ∀ r : Bool, r = false → Ev (fun k => impl_KeeperOk.l1 k L N E s A (List.replicate 3 0) (List.replicate 3 0) 0) r) → Ev (fun k => impl_KeeperOk.l0 k L N E s A 0) false := by
    intro h
    by_cases hw : W3 N A 0
    · rcases h with h | h
      · exact (h hw).elim
      · exact i1 hw _ (h _ rfl)
    · exact i2 hw
  cases hg : good L (List.replicate 3 0) with
  | false =>
    exact ⟨false, Ev.bind F1 (Ev.bind F3 (Ev.neg (fun h_ => absurd (hg.symm.trans h_) (by decide)) (Ev.now _))), hF (.inr fun r hr => by subst hr; exact m1 hg)⟩
  | true =>
    have hsplit := (good_app (L.take s.toNat) (L.drop s.toNat) (List.replicate 3 0)).1 (by rw [List.take_append_drop]; exact hg)
    have e1 := f2 hg
    have e2 := f4 hsplit.1
    subst e1
    subst e2
    have bm0 := bumps_bd L _ 0 hg bd0
    have bs0 := bumps_bd _ _ 0 hsplit.1 bd0
    have bm := bm0.up (j := 1048576) (by omega)
    have bs := bs0.up (j := 1048576) (by simp; omega)
    have hle : ∀ p, 0 ≤ p → p ≤ 2 → rd (bumps (L.take s.toNat) (List.replicate 3 0)) p ≤ rd (bumps L (List.replicate 3 0)) p := by
      intro p p0 p1
      have h1 := bumps_le (L.drop s.toNat) _ _ hsplit.2 bs0 p p0 p1
      rw [← bumps_app, List.take_append_drop] at h1
      exact h1
    have sp : ∀ r, Ev (fun k => spec_KeeperOk.l0 k L N E s A (bumps L (List.replicate 3 0), true) (bumps (L.take s.toNat) (List.replicate 3 0), true) 0) r → Ev (fun k => (spec_l20Counts.f k L (L.length : Int)).bind fun t8 => (spec_l20Counts.f k L s).bind fun t10 => if t8.2 = true then (if t10.2 = true then spec_KeeperOk.l0 k L N E s A t8 t10 0 else some false) else some false) r := by
      intro r h
      refine Ev.bind F1 (Ev.bind F3 (Ev.pos hg (Ev.pos hsplit.1 ?_)))
      rw [hg, hsplit.1]
      exact h
    obtain ⟨s1, s2⟩ := specCmp_ev L N E s A _ _ hN hA bm bs _ 0 rfl (by omega)
    obtain ⟨q1, q2⟩ := implCmp_ev L N E s A _ _ hN hA bm bs bN bA _ 0 rfl (by omega)
    by_cases hq : Q3 N A (bumps L (List.replicate 3 0)) (bumps (L.take s.toNat) (List.replicate 3 0)) 0
    · have hw : W3 N A 0 := by
        intro j h1 h2
        obtain ⟨a1, a2⟩ := hq j h1 h2
        have h3 := bm0.rd (p := (j : Int)) (by omega) (by omega)
        have h4 := bs0.rd (p := (j : Int)) (by omega) (by omega)
        have h5 := hle (j : Int) (by omega) (by omega)
        omega
      have bN' : ∀ v ∈ N, 0 ≤ v ∧ v ≤ 2000000 := by
        intro v hv
        obtain ⟨j, hj, rfl⟩ := List.getElem_of_mem hv
        obtain ⟨⟨h1, h2⟩, _⟩ := hw j (Nat.zero_le _) (by omega)
        obtain ⟨a1, _⟩ := hq j (Nat.zero_le _) (by omega)
        have h3 := bm0.rd (p := (j : Int)) (by omega) (by omega)
        have h4 : rd N (j : Int) = N[j] := by unfold rd; exact get_of N 0 (List.getElem?_eq_getElem hj)
        omega
      obtain ⟨r, r1, r2⟩ := earlies_ev L N E s A hN (by omega) bN' _ 0 rfl (by omega)
      exact ⟨r, sp _ (s1 hq _ r1), i1 hw _ (m2 hg _ (q1 hq _ r2))⟩
    · exact ⟨false, sp _ (s2 hq), hF (.inr fun r hr => by subst hr; exact m2 hg _ (q2 hq))⟩
theorem keeperOk_ev (hE : E.length ≤ 1048576) (bN : ∀ v ∈ N, -9223372036854775808 ≤ v ∧ v ≤ 9223372036854775807) (bA : ∀ v ∈ A, -9223372036854775808 ≤ v ∧ v ≤ 9223372036854775807) :
    ∃ r : Bool, Ev (fun k => spec_KeeperOk.f k L N E s A) r ∧ Ev (fun k => impl_KeeperOk.f k L N E s A) r := by
  have z : Ev (fun _ => some false) false := Ev.now _
  unfold spec_KeeperOk.f impl_KeeperOk.f
  by_cases h1 : (N.length : Int) = 3
  · by_cases h2 : (A.length : Int) = 3
    · by_cases h3 : (L.length : Int) > 200
      · exact ⟨false, Ev.pos h1 (Ev.pos h2 (Ev.pos h3 z)), Ev.pos h1 (Ev.pos h2 (Ev.pos h3 z))⟩
      · by_cases h4 : 0 ≤ s ∧ s ≤ (L.length : Int)
        · by_cases h5 : (E.length : Int) > 3
          · exact ⟨false, Ev.pos h1 (Ev.pos h2 (Ev.neg h3 (Ev.bindc (spec_l01In_of _ _ _) (Ev.pos (by simpa using h4) (Ev.pos h5 z))))), Ev.pos h1 (Ev.pos h2 (Ev.neg h3 (Ev.bindc (within_of _ _ _) (Ev.pos (by simpa using h4) (Ev.pos h5 z)))))⟩
          · obtain ⟨r, r1, r2⟩ := keeperOk_core L N E s A (by omega) (by omega) (by omega) h4.1 h4.2 hE bN bA
            exact ⟨r, Ev.pos h1 (Ev.pos h2 (Ev.neg h3 (Ev.bindc (spec_l01In_of _ _ _) (Ev.pos (by simpa using h4) (Ev.neg h5 r1))))), Ev.pos h1 (Ev.pos h2 (Ev.neg h3 (Ev.bindc (within_of _ _ _) (Ev.pos (by simpa using h4) (Ev.neg h5 r2)))))⟩
        · exact ⟨false, Ev.pos h1 (Ev.pos h2 (Ev.neg h3 (Ev.bindc (spec_l01In_of _ _ _) (Ev.neg (fun h_ => h4 (of_decide_eq_true h_)) z)))), Ev.pos h1 (Ev.pos h2 (Ev.neg h3 (Ev.bindc (within_of _ _ _) (Ev.neg (fun h_ => h4 (of_decide_eq_true h_)) z))))⟩
    · exact ⟨false, Ev.pos h1 (Ev.neg h2 z), Ev.pos h1 (Ev.neg h2 z)⟩
  · exact ⟨false, Ev.neg h1 z, Ev.neg h1 z⟩
end
def entOn (pid : Int) (s : List S34) (x : S98) : Except (List S34) (List S34) := .ok (if x.f0 = pid then s ++ [x.f2] else s)
def entriesV (pid : Int) (l : List S98) : List S34 := foldE (entOn pid) id l []
theorem ent_length (pid : Int) : ∀ (l : List S98) (s : List S34), (foldE (entOn pid) id l s).length ≤ s.length + l.length
  | [], s => by simp [foldE]
  | x :: r, s => by
    rw [foldE_on r (show entOn pid s x = .ok _ from rfl)]
    have := ent_length pid r (if x.f0 = pid then s ++ [x.f2] else s)
    have h2 : (if x.f0 = pid then s ++ [x.f2] else s).length ≤ s.length + 1 := by split <;> simp
    simp only [List.length_cons]; omega
theorem spec_EntriesOf_ev (l : List S98) (l1 : List Int) (l2 : List S97) (a : Int) (l4 : List Int) (pid : Int) (hn : l.length ≤ 1048576) : Ev (fun k => spec_EntriesOf.f k l l1 l2 a l4 pid) (entriesV pid l) := by
  unfold spec_EntriesOf.f entriesV
  have := foldE_ev (fun k s i => spec_EntriesOf.l0 k l l1 l2 a l4 pid s i) l (entOn pid) id (fun i s => s.length ≤ i) ?_ ?_ ?_ l.length 0 [] rfl (Nat.zero_le _) (by simp)
  · simpa using this
  · intro s hs
    refine Ev.step (f := fun _ => some s) (fun k => ?_) (Ev.now _)
    simp only [spec_EntriesOf.l0]; rw [if_neg (by omega)]
  · intro i x s e hx hs he; cases he
  · intro i x s s' hx hs he
    have hi := lt_of hx
    obtain rfl : (if x.f0 = pid then s ++ [x.f2] else s) = s' := by injection he
    refine ⟨by split <;> (try simp) <;> omega, fun r h => ?_⟩
    refine Ev.step (fun k => ?_) h
    simp only [spec_EntriesOf.l0]
    rw [if_pos (by omega), if_pos (by omega), rd98 hx, w64 (by omega) (by omega)]
    by_cases hp : x.f0 = pid
    · rw [if_pos hp, if_pos hp, if_pos (by simp only [List.length_cons, List.length_nil]; omega)]
    · rw [if_neg hp, if_neg hp]
theorem impl_EntriesOf_ev (l : List S98) (l1 : List Int) (l2 : List S97) (a : Int) (l4 : List Int) (pid : Int) (hn : l.length ≤ 1048576) : Ev (fun k => impl_EntriesOf.f k l l1 l2 a l4 pid) (entriesV pid l) := by
  unfold impl_EntriesOf.f entriesV
  have := foldE_ev (fun k s i => impl_EntriesOf.l0 k l pid s i) l (entOn pid) id (fun i s => s.length ≤ i) ?_ ?_ ?_ l.length 0 [] rfl (Nat.zero_le _) (by simp)
  · simpa using this
  · intro s hs
    refine Ev.step (f := fun _ => some s) (fun k => ?_) (Ev.now _)
    simp only [impl_EntriesOf.l0]; rw [if_neg (by omega)]
  · intro i x s e hx hs he; cases he
  · intro i x s s' hx hs he
    have hi := lt_of hx
    obtain rfl : (if x.f0 = pid then s ++ [x.f2] else s) = s' := by injection he
    refine ⟨by split <;> (try simp) <;> omega, fun r h => ?_⟩
    refine Ev.step (fun k => ?_) h
    simp only [impl_EntriesOf.l0]
    rw [if_pos (by omega), if_pos (by omega), rd98 hx, w64 (by omega) (by omega)]
    by_cases hp : x.f0 = pid
    · rw [if_pos hp, if_pos hp, if_pos (by simp only [List.length_cons, List.length_nil]; omega)]
    · rw [if_neg hp, if_neg hp]
def filOn (pid : Int) (s : List S160) (x : S160) : Except (List S160) (List S160) := .ok (if x.f0 = pid then s ++ [x] else s)
def filedV (pid : Int) (l : List S160) : List S160 := foldE (filOn pid) id l []
theorem spec_FiledOf_ev (w0 : List (List (List S212))) (w1 : List S164) (w2 : List S75) (w3 : List S98) (w4 : List Int) (w5 : List S97) (w6 : Int) (w7 : List Int) (w8 : List S169) (w9 : Int) (w10 : List Int) (l : List S160) (pid : Int) (hn : l.length ≤ 1048576) : Ev (fun k => spec_FiledOf.f k w0 w1 w2 w3 w4 w5 w6 w7 w8 w9 w10 l pid) (filedV pid l) := by
  unfold spec_FiledOf.f filedV
  have := foldE_ev (fun k s i => spec_FiledOf.l0 k w0 w1 w2 w3 w4 w5 w6 w7 w8 w9 w10 l pid s i) l (filOn pid) id (fun i s => s.length ≤ i) ?_ ?_ ?_ l.length 0 [] rfl (Nat.zero_le _) (by simp)
  · simpa using this
  · intro s hs
    refine Ev.step (f := fun _ => some s) (fun k => ?_) (Ev.now _)
    simp only [spec_FiledOf.l0]; rw [if_neg (by omega)]
  · intro i x s e hx hs he; cases he
  · intro i x s s' hx hs he
    have hi := lt_of hx
    obtain rfl : (if x.f0 = pid then s ++ [x] else s) = s' := by injection he
    refine ⟨by split <;> (try simp) <;> omega, fun r h => ?_⟩
    refine Ev.step (fun k => ?_) h
    simp only [spec_FiledOf.l0]
    rw [if_pos (by omega), if_pos (by omega), rd160 hx, w64 (by omega) (by omega)]
    by_cases hp : x.f0 = pid
    · rw [if_pos hp, if_pos hp, if_pos (by simp only [List.length_cons, List.length_nil]; omega)]
    · rw [if_neg hp, if_neg hp]
theorem impl_FiledOf_ev (w0 : List (List (List S212))) (w1 : List S164) (w2 : List S75) (w3 : List S98) (w4 : List Int) (w5 : List S97) (w6 : Int) (w7 : List Int) (w8 : List S169) (w9 : Int) (w10 : List Int) (l : List S160) (pid : Int) (hn : l.length ≤ 1048576) : Ev (fun k => impl_FiledOf.f k w0 w1 w2 w3 w4 w5 w6 w7 w8 w9 w10 l pid) (filedV pid l) := by
  unfold impl_FiledOf.f filedV
  have := foldE_ev (fun k s i => impl_FiledOf.l0 k l pid s i) l (filOn pid) id (fun i s => s.length ≤ i) ?_ ?_ ?_ l.length 0 [] rfl (Nat.zero_le _) (by simp)
  · simpa using this
  · intro s hs
    refine Ev.step (f := fun _ => some s) (fun k => ?_) (Ev.now _)
    simp only [impl_FiledOf.l0]; rw [if_neg (by omega)]
  · intro i x s e hx hs he; cases he
  · intro i x s s' hx hs he
    have hi := lt_of hx
    obtain rfl : (if x.f0 = pid then s ++ [x] else s) = s' := by injection he
    refine ⟨by split <;> (try simp) <;> omega, fun r h => ?_⟩
    refine Ev.step (fun k => ?_) h
    simp only [impl_FiledOf.l0]
    rw [if_pos (by omega), if_pos (by omega), rd160 hx, w64 (by omega) (by omega)]
    by_cases hp : x.f0 = pid
    · rw [if_pos hp, if_pos hp, if_pos (by simp only [List.length_cons, List.length_nil]; omega)]
    · rw [if_neg hp, if_neg hp]
def gapS : S34 := ⟨2, 0, 0, 1⟩
def gaps : Nat → List S34 → List S34
  | 0, out => out
  | n + 1, out => if out.length ≤ 1000 then gaps n (out ++ [gapS]) else out
def spreadOn (s : List S34) (x : S34) : Except (List S34) (List S34) := .ok (if x.f0 = 2 then gaps x.f3.toNat s else s ++ [x])
def spreadV (xs : List S34) : List S34 := foldE spreadOn id xs []
theorem gaps_length : ∀ (n : Nat) (out : List S34), (gaps n out).length ≤ max out.length 1001
  | 0, out => by unfold gaps; omega
  | n + 1, out => by
    unfold gaps
    split
    · have := gaps_length n (out ++ [gapS]); simp at this; omega
    · omega
theorem spread_length : ∀ (xs s : List S34) (i : Nat), s.length ≤ 1001 + i → (foldE spreadOn id xs s).length ≤ 1001 + i + xs.length
  | [], s, i, h => by simpa [foldE] using h
  | x :: r, s, i, h => by
    rw [foldE_on r (show spreadOn s x = .ok _ from rfl)]
    have hn : (if x.f0 = 2 then gaps x.f3.toNat s else s ++ [x]).length ≤ 1001 + (i + 1) := by
      split
      · have := gaps_length x.f3.toNat s; omega
      · simp; omega
    have := spread_length r _ (i + 1) hn
    simp only [List.length_cons]; omega
theorem spec_gaps_ev (xs : List S34) (i : Nat) (x : S34) (hx : xs[i]? = some x) (hn : xs.length ≤ 1048576) (hf : x.f3 ≤ 9223372036854775807) (r : List S34) : ∀ (d : Nat) (j : Int) (out : List S34), (x.f3 - j).toNat = d → 0 ≤ j → out.length ≤ 3000000 →
    Ev (fun k => spec_Spread.l1 k xs (gaps d out) ((i : Int) + 1)) r → Ev (fun k => spec_Spread.l0 k xs i out j) r := by
  have hi := lt_of hx
  intro d
  induction d with
  | zero =>
    intro j out hd hj ho h
    refine Ev.step (fun k => ?_) h
    simp only [spec_Spread.l0]
    rw [rd34 hx, if_neg (by omega), w64 (by omega) (by omega)]
    rfl
  | succ d ih =>
    intro j out hd hj ho h
    by_cases hl : out.length ≤ 1000
    · have h' : Ev (fun k => spec_Spread.l1 k xs (gaps d (out ++ [gapS])) ((i : Int) + 1)) r := by
        rw [show gaps (d + 1) out = gaps d (out ++ [gapS]) by conv => lhs; unfold gaps; rw [if_pos hl]] at h
        exact h
      refine Ev.step (fun k => ?_) (ih (j + 1) (out ++ [gapS]) (by omega) (by omega) (by simp; omega) h')
      simp only [spec_Spread.l0]
      rw [rd34 hx, if_pos (by omega), if_pos (by omega), if_pos (by simp only [List.length_cons, List.length_nil]; omega), w64 (by omega) (by omega)]
      rfl
    · rw [show gaps (d + 1) out = out by conv => lhs; unfold gaps; rw [if_neg hl]] at h
      refine Ev.step (fun k => ?_) h
      simp only [spec_Spread.l0]
      rw [rd34 hx, if_pos (by omega), if_neg (by omega), w64 (by omega) (by omega)]
theorem spec_Spread_ev (xs : List S34) (hn : xs.length ≤ 1048576) (hf : ∀ x ∈ xs, x.f3 ≤ 9223372036854775807) : Ev (fun k => spec_Spread.f k xs) (spreadV xs) := by
  unfold spec_Spread.f spreadV
  have := foldE_ev (fun k s i => spec_Spread.l1 k xs s i) xs spreadOn id (fun i s => s.length ≤ 1001 + i) ?_ ?_ ?_ xs.length 0 [] rfl (Nat.zero_le _) (by simp)
  · simpa using this
  · intro s hs
    refine Ev.step (f := fun _ => some s) (fun k => ?_) (Ev.now _)
    simp only [spec_Spread.l1]; rw [if_neg (by omega)]
  · intro i x s e hx hs he; cases he
  · intro i x s s' hx hs he
    have hi := lt_of hx
    obtain rfl : (if x.f0 = 2 then gaps x.f3.toNat s else s ++ [x]) = s' := by injection he
    by_cases h2 : x.f0 = 2
    · rw [if_pos h2]
      refine ⟨by have := gaps_length x.f3.toNat s; omega, fun r h => ?_⟩
      have h' := spec_gaps_ev xs i x hx hn (hf x (List.mem_of_getElem? hx)) r x.f3.toNat 0 s (by simp) (by omega) (by omega) h
      refine Ev.step (fun k => ?_) h'
      simp only [spec_Spread.l1]
      rw [if_pos (by omega), if_pos (by omega), rd34 hx, if_pos h2]
    · rw [if_neg h2]
      refine ⟨by simp; omega, fun r h => ?_⟩
      refine Ev.step (fun k => ?_) h
      simp only [spec_Spread.l1]
      rw [if_pos (by omega), if_pos (by omega), rd34 hx, if_neg h2, if_pos (by simp only [List.length_cons, List.length_nil]; omega), w64 (by omega) (by omega)]
theorem impl_Spread_same : impl_Spread.f = spec_Spread.f := by kernel_rfl
theorem impl_Spread_ev (xs : List S34) (hn : xs.length ≤ 1048576) (hf : ∀ x ∈ xs, x.f3 ≤ 9223372036854775807) : Ev (fun k => impl_Spread.f k xs) (spreadV xs) := by
  rw [impl_Spread_same]; exact spec_Spread_ev xs hn hf
def fitOne (p : S34 × S160) : Bool := if (p.1.f0 == 2) = p.2.f3 then false else if p.1.f0 = 2 then true else if p.1.f1 = p.2.f1 then decide (p.1.f2 = p.2.f2) else false
def fitsV (t : List S34) (l : List S160) : Bool := if (t.length : Int) > (l.length : Int) then false else (t.zip l).all fitOne
theorem zip_get {α β : Type} {a : List α} {b : List β} {i : Nat} {x : α × β} (h : (a.zip b)[i]? = some x) : a[i]? = some x.1 ∧ b[i]? = some x.2 := by
  rw [List.getElem?_zip_eq_some] at h
  exact h
theorem spec_Fits_ev (xs : List S34) (l : List S160) (g : List S34) (e : Ev (fun k => spec_Spread.f k xs) g) (hg : g.length ≤ 3000000) : Ev (fun k => spec_Fits.f k xs l) (fitsV g l) := by
  unfold spec_Fits.f fitsV
  refine Ev.bind e ?_
  by_cases h : (g.length : Int) > (l.length : Int)
  · rw [if_pos h]; exact Ev.pos h (Ev.now _)
  rw [if_neg h]; refine Ev.neg h ?_
  have hz : (g.zip l).length = g.length := by rw [List.length_zip]; omega
  refine all_ev (fun k i => spec_Fits.l0 k l g i) (g.zip l) fitOne ?_ ?_ ?_
  · rw [hz]
    refine Ev.step (f := fun _ => some true) (fun k => ?_) (Ev.now _)
    simp only [spec_Fits.l0]; rw [if_neg (by omega)]
  · intro i x hx hf
    obtain ⟨h1, h2⟩ := zip_get hx
    have l1 := lt_of h1; have l2 := lt_of h2
    refine Ev.step (f := fun _ => some false) (fun k => ?_) (Ev.now _)
    simp only [spec_Fits.l0]
    rw [if_pos (by omega), if_pos (by omega), if_pos (by omega), rd34 h1, rd160 h2]
    unfold fitOne at hf
    by_cases c1 : (x.1.f0 == 2) = x.2.f3
    · rw [if_pos c1]
    · rw [if_neg c1] at hf ⊢
      by_cases c2 : x.1.f0 = 2
      · rw [if_pos c2] at hf; cases hf
      · rw [if_neg c2] at hf ⊢
        by_cases c3 : x.1.f1 = x.2.f1
        · rw [if_pos c3] at hf ⊢
          rw [if_neg (of_decide_eq_false hf)]
        · rw [if_neg c3]
  · intro i x r hx hf hr
    obtain ⟨h1, h2⟩ := zip_get hx
    have l1 := lt_of h1; have l2 := lt_of h2
    refine Ev.step (fun k => ?_) hr
    simp only [spec_Fits.l0]
    rw [if_pos (by omega), if_pos (by omega), if_pos (by omega), rd34 h1, rd160 h2, w64 (by omega) (by omega)]
    unfold fitOne at hf
    by_cases c1 : (x.1.f0 == 2) = x.2.f3
    · rw [if_pos c1] at hf; cases hf
    · rw [if_neg c1] at hf ⊢
      by_cases c2 : x.1.f0 = 2
      · rw [if_pos c2]
      · rw [if_neg c2] at hf ⊢
        by_cases c3 : x.1.f1 = x.2.f1
        · rw [if_pos c3] at hf ⊢
          rw [if_pos (of_decide_eq_true hf)]
        · rw [if_neg c3] at hf; cases hf
theorem impl_Fits_ev (xs : List S34) (l : List S160) (g : List S34) (e : Ev (fun k => impl_Spread.f k xs) g) (hg : g.length ≤ 3000000) : Ev (fun k => impl_Fits.f k xs l) (fitsV g l) := by
  unfold impl_Fits.f fitsV
  refine Ev.bind e ?_
  by_cases h : (g.length : Int) > (l.length : Int)
  · rw [if_pos h]; exact Ev.pos h (Ev.now _)
  rw [if_neg h]; refine Ev.neg h ?_
  have hz : (g.zip l).length = g.length := by rw [List.length_zip]; omega
  refine all_ev (fun k i => impl_Fits.l0 k l g i) (g.zip l) fitOne ?_ ?_ ?_
  · rw [hz]
    refine Ev.step (f := fun _ => some true) (fun k => ?_) (Ev.now _)
    simp only [impl_Fits.l0]; rw [if_neg (by omega)]
  · intro i x hx hf
    obtain ⟨h1, h2⟩ := zip_get hx
    have l1 := lt_of h1; have l2 := lt_of h2
    refine Ev.step (f := fun _ => some false) (fun k => ?_) (Ev.now _)
    simp only [impl_Fits.l0]
    rw [if_pos (by omega), if_pos (by omega), if_pos (by omega), rd34 h1, rd160 h2]
    unfold fitOne at hf
    by_cases c1 : (x.1.f0 == 2) = x.2.f3
    · rw [if_pos c1]
    · rw [if_neg c1] at hf ⊢
      by_cases c2 : x.1.f0 = 2
      · rw [if_pos c2] at hf; cases hf
      · rw [if_neg c2] at hf ⊢
        by_cases c3 : x.1.f1 = x.2.f1
        · rw [if_pos c3] at hf ⊢
          rw [if_neg (of_decide_eq_false hf)]
        · rw [if_neg c3]
  · intro i x r hx hf hr
    obtain ⟨h1, h2⟩ := zip_get hx
    have l1 := lt_of h1; have l2 := lt_of h2
    refine Ev.step (fun k => ?_) hr
    simp only [impl_Fits.l0]
    rw [if_pos (by omega), if_pos (by omega), if_pos (by omega), rd34 h1, rd160 h2, w64 (by omega) (by omega)]
    unfold fitOne at hf
    by_cases c1 : (x.1.f0 == 2) = x.2.f3
    · rw [if_pos c1] at hf; cases hf
    · rw [if_neg c1] at hf ⊢
      by_cases c2 : x.1.f0 = 2
      · rw [if_pos c2]
      · rw [if_neg c2] at hf ⊢
        by_cases c3 : x.1.f1 = x.2.f1
        · rw [if_pos c3] at hf ⊢
          rw [if_pos (of_decide_eq_true hf)]
        · rw [if_neg c3] at hf; cases hf
theorem ent_mem (pid : Int) (B : Int) : ∀ (l : List S98) (s : List S34), (∀ x ∈ s, x.f3 ≤ B) → (∀ x ∈ l, x.f2.f3 ≤ B) → ∀ x ∈ foldE (entOn pid) id l s, x.f3 ≤ B
  | [], s, hs, _ => by simpa [foldE] using hs
  | y :: r, s, hs, hl => by
    rw [foldE_on r (show entOn pid s y = .ok _ from rfl)]
    refine ent_mem pid B r _ ?_ (fun x hx => hl x (List.mem_cons_of_mem _ hx))
    split
    · intro x hx
      rcases List.mem_append.1 hx with hx | hx
      · exact hs x hx
      · rw [List.mem_singleton] at hx; subst hx; exact hl y List.mem_cons_self
    · exact hs
theorem pure : Pure := by
  intro w0 w1 w2 w3 w4 w5 w6 w7 w8 w9 w10 w11 h0 h1 h2 h3 h4 h5 h6 h7 h8 h9 h10 h11
  refine Ev.rounds ?_
  unfold laws_FnExactLogRight.f
  obtain ⟨v, hv, h⟩ := szWorld_ev w0 w1 w2 w3 w4 w5 w6 w7 w8 w9 w10 w11 1048576 h0 h1 h2 h3 h4 h5 h7 h8 h10 h11 (by omega) (by omega)
  refine Ev.bind hv ?_
  rcases h with h | ⟨_, _, n0, n1, n2, n3, n4, n5, n7, n8, n10, n11⟩
  · exact Ev.pos h (Ev.now _)
  refine Ev.neg (by omega) ?_
  have e1 := toWorld_ev w0 w1 w2 w3 w4 w5 w6 w7 w8 w9 w10 w11 n0 n1 n2 n3 n4 n5 n7 n8 n10 n11
  have c0 : FitL (FitL (FitL Fit212)) (w0.map (List.map (List.map cvS214_S212))) := ⟨by rw [List.length_map]; exact n0.1, fun x hx => by
    obtain ⟨y, hy, rfl⟩ := List.mem_map.1 hx
    have := n0.2 y hy
    exact ⟨by rw [List.length_map]; exact this.1, fun x hx => by
      obtain ⟨z, hz, rfl⟩ := List.mem_map.1 hx
      exact ⟨by rw [List.length_map]; exact (this.2 z hz).1, fun _ _ => trivial⟩⟩⟩
  have c1 : FitL Fit164 (w1.map cvS150_S164) := ⟨by rw [List.length_map]; exact n1.1, fun x hx => by
    obtain ⟨y, hy, rfl⟩ := List.mem_map.1 hx
    exact ⟨by show (List.map _ _).length ≤ _; rw [List.length_map]; exact (n1.2 y hy).1, fun _ _ => trivial⟩⟩
  have c2 : FitL Fit75 (w2.map cvS153_S75) := ⟨by rw [List.length_map]; exact n2.1, fun x hx => by
    obtain ⟨y, hy, rfl⟩ := List.mem_map.1 hx
    exact ⟨by show (List.map _ _).length ≤ _; rw [List.length_map]; exact (n2.2 y hy).1, fun _ _ => trivial⟩⟩
  have c3 : FitL Fit98 (w3.map cvS196_S98) := ⟨by rw [List.length_map]; exact n3.1, fun _ _ => trivial⟩
  have c5 : FitL Fit97 (w5.map cvS198_S97) := ⟨by rw [List.length_map]; exact n5.1, fun _ _ => trivial⟩
  have c8 : FitL Fit169 (w8.map cvS158_S169) := ⟨by rw [List.length_map]; exact n8.1, fun x hx => by
    obtain ⟨y, hy, rfl⟩ := List.mem_map.1 hx
    exact n8.2 y hy⟩
  have c11 : FitL Fit160 (w11.map cvS172_S160) := ⟨by rw [List.length_map]; exact n11.1, fun _ _ => trivial⟩
  have b3 : ∀ x ∈ w3.map cvS196_S98, x.f2.f3 ≤ 9223372036854775807 := fun x hx => by
    obtain ⟨y, hy, rfl⟩ := List.mem_map.1 hx
    exact (i64_of (h3.2 y hy).2.2.2.2.2).2
  generalize w0.map (List.map (List.map cvS214_S212)) = x0 at e1 c0
  generalize w1.map cvS150_S164 = x1 at e1 c1
  generalize w2.map cvS153_S75 = x2 at e1 c2
  generalize w3.map cvS196_S98 = x3 at e1 c3 b3
  generalize w5.map cvS198_S97 = x5 at e1 c5
  generalize w8.map cvS158_S169 = x8 at e1 c8
  generalize w11.map cvS172_S160 = x11 at e1 c11
  have e2 := eqWorld_ev x0 x1 x2 x3 w4 x5 w6 w7 x8 w9 w10 x11 c0 c1 c2 c3 n4 c5 n7 c8 n10 c11
  have key : ∃ r : Bool, Ev (fun k => spec_LogRight.f k x0 x1 x2 x3 w4 x5 w6 w7 x8 w9 w10 x11) r ∧ Ev (fun k => impl_LogRight.f k x0 x1 x2 x3 w4 x5 w6 w7 x8 w9 w10 x11) r := by
    obtain ⟨r, k1, k2⟩ := keeperOk_ev x3 w4 x5 w6 w7 c5.1 (fun v hv => i64_of (h4.2 v hv)) (fun v hv => i64_of (h7.2 v hv))
    have go : ∀ (d i : Nat), 3 - i = d → i ≤ 3 → ∃ r : Bool, Ev (fun k => spec_LogRight.l0 k x0 x1 x2 x3 w4 x5 w6 w7 x8 w9 w10 x11 (i : Int)) r ∧ Ev (fun k => impl_LogRight.l0 k x0 x1 x2 x3 w4 x5 w6 w7 x8 w9 w10 x11 (i : Int)) r := by
      intro d
      induction d with
      | zero =>
        intro i hd hi
        refine ⟨r, Ev.step (fun _ => rfl) ?_, Ev.step (fun _ => rfl) ?_⟩
        · simp only [spec_LogRight.l0]; exact Ev.neg (by omega) (Ev.bind k1 (Ev.now _))
        · simp only [impl_LogRight.l0]; exact Ev.neg (by omega) (Ev.bind k2 (Ev.now _))
      | succ d ih =>
        intro i hd hi
        have f1 := spec_EntriesOf_ev x3 w4 x5 w6 w7 (i : Int) c3.1
        have f2 := impl_EntriesOf_ev x3 w4 x5 w6 w7 (i : Int) c3.1
        have f3 := spec_FiledOf_ev x0 x1 x2 x3 w4 x5 w6 w7 x8 w9 w10 x11 (i : Int) c11.1
        have f4 := impl_FiledOf_ev x0 x1 x2 x3 w4 x5 w6 w7 x8 w9 w10 x11 (i : Int) c11.1
        have hl : (entriesV (i : Int) x3).length ≤ x3.length := by have := ent_length (i : Int) x3 []; simpa [entriesV] using this
        have hc := c3.1
        have hm : ∀ x ∈ entriesV (i : Int) x3, x.f3 ≤ 9223372036854775807 := ent_mem (i : Int) _ x3 [] (fun x hx => by simp at hx) b3
        generalize entriesV (i : Int) x3 = xs at f1 f2 hl hm
        have s1 := spec_Spread_ev xs (by omega) hm
        have s2 := impl_Spread_ev xs (by omega) hm
        have hs : (spreadV xs).length ≤ 3000000 := by have := spread_length xs [] 0 (by simp); unfold spreadV; omega
        have g1 := spec_Fits_ev xs (filedV (i : Int) x11) _ s1 hs
        have g2 := impl_Fits_ev xs (filedV (i : Int) x11) _ s2 hs
        generalize fitsV (spreadV xs) (filedV (i : Int) x11) = b at g1 g2
        have w : wrap64 ((i : Int) + 1) = ((i + 1 : Nat) : Int) := by rw [w64 (by omega) (by omega)]; omega
        obtain ⟨r, k1, k2⟩ := ih (i + 1) (by omega) (by omega)
        cases b with
        | true =>
          refine ⟨r, Ev.step (fun _ => rfl) ?_, Ev.step (fun _ => rfl) ?_⟩
          · simp only [spec_LogRight.l0]; rw [w]; exact Ev.pos (by omega) (Ev.bind f1 (Ev.bind f3 (Ev.bind g1 (Ev.pos rfl k1))))
          · simp only [impl_LogRight.l0]; rw [w]; exact Ev.pos (by omega) (Ev.bind f2 (Ev.bind f4 (Ev.bind g2 (Ev.pos rfl k2))))
        | false =>
          refine ⟨false, Ev.step (fun _ => rfl) ?_, Ev.step (fun _ => rfl) ?_⟩
          · simp only [spec_LogRight.l0]; exact Ev.pos (by omega) (Ev.bind f1 (Ev.bind f3 (Ev.bind g1 (Ev.neg (by simp) (Ev.now _)))))
          · simp only [impl_LogRight.l0]; exact Ev.pos (by omega) (Ev.bind f2 (Ev.bind f4 (Ev.bind g2 (Ev.neg (by simp) (Ev.now _)))))
    exact go 3 0 rfl (Nat.zero_le _)
  obtain ⟨r, k1, k2⟩ := key
  exact Ev.bind e1 (Ev.bind k1 (Ev.bind e1 (Ev.bind k2 (Ev.pos rfl (Ev.bind e1 (Ev.bind e2 (Ev.pos rfl (Ev.now _))))))))
end Go.Proofs.Ytfeaemlakniijaa.PFnExactLogRight
namespace Go.Proofs.Ytfeaemlakniijaa
/-- The given statement. -/
theorem fnExactLogRight_holds : Rows.FnExactLogRightSaid := AFnExactLogRight.row PFnExactLogRight.pure
#print axioms fnExactLogRight_holds
end Go.Proofs.Ytfeaemlakniijaa
