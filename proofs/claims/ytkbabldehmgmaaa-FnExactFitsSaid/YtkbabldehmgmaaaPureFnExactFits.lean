/- laws.FnExactFits returns true at every input, its arguments as they were. No condition. -/
import Derived.Test.YtkbabldehmgmaaaExFnExactFits
import Derived.Test.YtkbabldehmgmaaaArgFnExactFits
set_option linter.unusedVariables false
set_option linter.unusedSimpArgs false
namespace Go.Proofs.Ytkbabldehmgmaaa.PFnExactFits
open Go.RowKit Go.Proofs.YtkbabldehmgmaaaW.PrintWords Go.Proofs.YtkbabldehmgmaaaW.PrintLast Go.Proofs.YtkbabldehmgmaaaL Go.Proofs.YtkbabldehmgmaaaO Go.Proofs.Ytkbabldehmgmaaa.AFnExactFits
theorem i64_of {x : Int} (h : OkN .i64 x) : -9223372036854775808 ≤ x ∧ x ≤ 9223372036854775807 := bounds_i64 h
def gapS : S47 := ⟨2, 0, 0, 1⟩
def gaps : Nat → List S47 → List S47
  | 0, out => out
  | n + 1, out => if out.length ≤ 1000 then gaps n (out ++ [gapS]) else out
def spreadOn (s : List S47) (x : S47) : Except (List S47) (List S47) := .ok (if x.f0 = 2 then gaps x.f3.toNat s else s ++ [x])
def spreadV (xs : List S47) : List S47 := foldE spreadOn id xs []
theorem gaps_length : ∀ (n : Nat) (out : List S47), (gaps n out).length ≤ max out.length 1001
  | 0, out => by unfold gaps; omega
  | n + 1, out => by
    unfold gaps
    split
    · have := gaps_length n (out ++ [gapS]); simp at this; omega
    · omega
theorem spread_length : ∀ (xs s : List S47) (i : Nat), s.length ≤ 1001 + i → (foldE spreadOn id xs s).length ≤ 1001 + i + xs.length
  | [], s, i, h => by simpa [foldE] using h
  | x :: r, s, i, h => by
    rw [foldE_on r (show spreadOn s x = .ok _ from rfl)]
    have hn : (if x.f0 = 2 then gaps x.f3.toNat s else s ++ [x]).length ≤ 1001 + (i + 1) := by
      split
      · have := gaps_length x.f3.toNat s; omega
      · simp; omega
    have := spread_length r _ (i + 1) hn
    simp only [List.length_cons]; omega
theorem spec_gaps_ev (xs : List S47) (i : Nat) (x : S47) (hx : xs[i]? = some x) (hn : xs.length ≤ 1048576) (hf : x.f3 ≤ 9223372036854775807) (r : List S47) : ∀ (d : Nat) (j : Int) (out : List S47), (x.f3 - j).toNat = d → 0 ≤ j → out.length ≤ 3000000 →
    Ev (fun k => spec_Spread.l0 k xs (gaps d out) ((i : Int) + 1)) r → Ev (fun k => spec_Spread.l1 k xs out i j) r := by
  have hi := lt_of hx
  intro d
  induction d with
  | zero =>
    intro j out hd hj ho h
    refine Ev.step (fun k => ?_) h
    simp only [spec_Spread.l1]
    rw [if_pos (by omega), if_pos (by omega), rd47 hx, if_neg (by omega), w64 (by omega) (by omega)]
    rfl
  | succ d ih =>
    intro j out hd hj ho h
    by_cases hl : out.length ≤ 1000
    · have h' : Ev (fun k => spec_Spread.l0 k xs (gaps d (out ++ [gapS])) ((i : Int) + 1)) r := by
        rw [show gaps (d + 1) out = gaps d (out ++ [gapS]) by conv => lhs; unfold gaps; rw [if_pos hl]] at h
        exact h
      refine Ev.step (fun k => ?_) (ih (j + 1) (out ++ [gapS]) (by omega) (by omega) (by simp; omega) h')
      simp only [spec_Spread.l1]
      rw [if_pos (by omega), if_pos (by omega), rd47 hx, if_pos (by omega), if_pos (by omega), if_pos (by omega), w64 (by omega) (by omega)]
      rfl
    · rw [show gaps (d + 1) out = out by conv => lhs; unfold gaps; rw [if_neg hl]] at h
      refine Ev.step (fun k => ?_) h
      simp only [spec_Spread.l1]
      rw [if_pos (by omega), if_pos (by omega), rd47 hx, if_pos (by omega), if_neg (by omega), w64 (by omega) (by omega)]
theorem spec_Spread_ev (xs : List S47) (hn : xs.length ≤ 1048576) (hf : ∀ x ∈ xs, x.f3 ≤ 9223372036854775807) : Ev (fun k => spec_Spread.f k xs) (spreadV xs) := by
  unfold spec_Spread.f spreadV
  have := foldE_ev (fun k s i => spec_Spread.l0 k xs s i) xs spreadOn id (fun i s => s.length ≤ 1001 + i) ?_ ?_ ?_ xs.length 0 [] rfl (Nat.zero_le _) (by simp)
  · simpa using this
  · intro s hs
    refine Ev.step (f := fun _ => some s) (fun k => ?_) (Ev.now _)
    simp only [spec_Spread.l0]; rw [if_neg (by omega)]
  · intro i x s e hx hs he; cases he
  · intro i x s s' hx hs he
    have hi := lt_of hx
    obtain rfl : (if x.f0 = 2 then gaps x.f3.toNat s else s ++ [x]) = s' := by injection he
    by_cases h2 : x.f0 = 2
    · rw [if_pos h2]
      refine ⟨by have := gaps_length x.f3.toNat s; omega, fun r h => ?_⟩
      have h' := spec_gaps_ev xs i x hx hn (hf x (List.mem_of_getElem? hx)) r x.f3.toNat 0 s (by simp) (by omega) (by omega) h
      refine Ev.step (fun k => ?_) h'
      simp only [spec_Spread.l0]
      rw [if_pos (by omega), if_pos (by omega), rd47 hx, if_pos h2]
    · rw [if_neg h2]
      refine ⟨by simp; omega, fun r h => ?_⟩
      refine Ev.step (fun k => ?_) h
      simp only [spec_Spread.l0]
      rw [if_pos (by omega), if_pos (by omega), rd47 hx, if_neg h2, if_pos (by omega), w64 (by omega) (by omega)]
theorem impl_gaps_ev (xs : List S47) (i : Nat) (x : S47) (hx : xs[i]? = some x) (hn : xs.length ≤ 1048576) (hf : x.f3 ≤ 9223372036854775807) (r : List S47) : ∀ (d : Nat) (j : Int) (out : List S47), (x.f3 - j).toNat = d → 0 ≤ j → out.length ≤ 3000000 →
    Ev (fun k => impl_Spread.l0 k (gaps d out) xs (xs.length : Int) ((i : Int) + 1)) r → Ev (fun k => impl_Spread.l1 k out j xs (xs.length : Int) i x.f0 x.f1 x.f2 x.f3) r := by
  have hi := lt_of hx
  intro d
  induction d with
  | zero =>
    intro j out hd hj ho h
    refine Ev.step (fun k => ?_) h
    simp only [impl_Spread.l1]
    rw [if_neg (by omega), w64 (by omega) (by omega)]
    rfl
  | succ d ih =>
    intro j out hd hj ho h
    by_cases hl : out.length ≤ 1000
    · have h' : Ev (fun k => impl_Spread.l0 k (gaps d (out ++ [gapS])) xs (xs.length : Int) ((i : Int) + 1)) r := by
        rw [show gaps (d + 1) out = gaps d (out ++ [gapS]) by conv => lhs; unfold gaps; rw [if_pos hl]] at h
        exact h
      refine Ev.step (fun k => ?_) (ih (j + 1) (out ++ [gapS]) (by omega) (by omega) (by simp; omega) h')
      simp only [impl_Spread.l1]
      rw [if_pos (by omega), if_pos (by omega), if_pos (by omega), w64 (by omega) (by omega)]
      rfl
    · rw [show gaps (d + 1) out = out by conv => lhs; unfold gaps; rw [if_neg hl]] at h
      refine Ev.step (fun k => ?_) h
      simp only [impl_Spread.l1]
      rw [if_pos (by omega), if_neg (by omega), w64 (by omega) (by omega)]
theorem impl_Spread_ev (xs : List S47) (hn : xs.length ≤ 1048576) (hf : ∀ x ∈ xs, x.f3 ≤ 9223372036854775807) : Ev (fun k => impl_Spread.f k xs) (spreadV xs) := by
  unfold impl_Spread.f spreadV
  have := foldE_ev (fun k s i => impl_Spread.l0 k s xs (xs.length : Int) i) xs spreadOn id (fun i s => s.length ≤ 1001 + i) ?_ ?_ ?_ xs.length 0 [] rfl (Nat.zero_le _) (by simp)
  · simpa using this
  · intro s hs
    refine Ev.step (f := fun _ => some s) (fun k => ?_) (Ev.now _)
    simp only [impl_Spread.l0]; rw [if_neg (by omega)]
  · intro i x s e hx hs he; cases he
  · intro i x s s' hx hs he
    have hi := lt_of hx
    obtain rfl : (if x.f0 = 2 then gaps x.f3.toNat s else s ++ [x]) = s' := by injection he
    by_cases h2 : x.f0 = 2
    · rw [if_pos h2]
      refine ⟨by have := gaps_length x.f3.toNat s; omega, fun r h => ?_⟩
      have h' := impl_gaps_ev xs i x hx hn (hf x (List.mem_of_getElem? hx)) r x.f3.toNat 0 s (by simp) (by omega) (by omega) h
      refine Ev.step (fun k => ?_) h'
      simp only [impl_Spread.l0]
      rw [if_pos (by omega), if_pos (by omega), if_pos (by omega), rd47 hx, if_pos h2]
    · rw [if_neg h2]
      refine ⟨by simp; omega, fun r h => ?_⟩
      refine Ev.step (fun k => ?_) h
      simp only [impl_Spread.l0]
      rw [if_pos (by omega), if_pos (by omega), if_pos (by omega), rd47 hx, if_neg h2, if_pos (by omega), w64 (by omega) (by omega)]
def fitOne (p : S47 × S135) : Bool := if ((p.1.f0 == 2) == p.2.f3) = true then false else if p.1.f0 = 2 then true else if p.1.f1 = p.2.f1 then decide (p.1.f2 = p.2.f2) else false
def fitsV (t : List S47) (l : List S135) : Bool := if (t.length : Int) > (l.length : Int) then false else (t.zip l).all fitOne
theorem zip_get {α β : Type} {a : List α} {b : List β} {i : Nat} {x : α × β} (h : (a.zip b)[i]? = some x) : a[i]? = some x.1 ∧ b[i]? = some x.2 := by
  rw [List.getElem?_zip_eq_some] at h
  exact h
theorem spec_Fits_ev (xs : List S47) (l : List S135) (g : List S47) (e : Ev (fun k => spec_Spread.f k xs) g) (hg : g.length ≤ 3000000) : Ev (fun k => spec_Fits.f k xs l) (fitsV g l) := by
  unfold spec_Fits.f fitsV
  refine Ev.bind e ?_
  by_cases h : (g.length : Int) > (l.length : Int)
  · rw [if_pos h]; exact Ev.pos h (Ev.now _)
  rw [if_neg h]; refine Ev.neg h ?_
  have hz : (g.zip l).length = g.length := by rw [List.length_zip]; omega
  refine all_ev (fun k i => spec_Fits.l0 k l g i) (g.zip l) fitOne ?_ ?_ ?_
  · rw [hz]
    refine Ev.step (f := fun _ => some true) (fun k => ?_) (Ev.now _)
    simp only [spec_Fits.l0]; rw [if_neg (by omega)]
  · intro i x hx hf
    obtain ⟨h1, h2⟩ := zip_get hx
    have l1 := lt_of h1; have l2 := lt_of h2
    refine Ev.step (f := fun _ => some false) (fun k => ?_) (Ev.now _)
    simp only [spec_Fits.l0]
    rw [if_pos (by omega), if_pos (by omega), if_pos (by omega), rd47 h1, rd135 h2]
    unfold fitOne at hf
    by_cases c1 : ((x.1.f0 == 2) == x.2.f3) = true
    · rw [if_pos c1]
    · rw [if_neg c1] at hf ⊢
      by_cases c2 : x.1.f0 = 2
      · rw [if_pos c2] at hf; cases hf
      · rw [if_neg c2] at hf ⊢
        by_cases c3 : x.1.f1 = x.2.f1
        · rw [if_pos c3] at hf ⊢
          rw [if_neg (of_decide_eq_false hf)]
        · rw [if_neg c3]
  · intro i x r hx hf hr
    obtain ⟨h1, h2⟩ := zip_get hx
    have l1 := lt_of h1; have l2 := lt_of h2
    refine Ev.step (fun k => ?_) hr
    simp only [spec_Fits.l0]
    rw [if_pos (by omega), if_pos (by omega), if_pos (by omega), rd47 h1, rd135 h2, w64 (by omega) (by omega)]
    unfold fitOne at hf
    by_cases c1 : ((x.1.f0 == 2) == x.2.f3) = true
    · rw [if_pos c1] at hf; cases hf
    · rw [if_neg c1] at hf ⊢
      by_cases c2 : x.1.f0 = 2
      · rw [if_pos c2]
      · rw [if_neg c2] at hf ⊢
        by_cases c3 : x.1.f1 = x.2.f1
        · rw [if_pos c3] at hf ⊢
          rw [if_pos (of_decide_eq_true hf)]
        · rw [if_neg c3] at hf; cases hf
theorem impl_Fits_ev (xs : List S47) (l : List S135) (g : List S47) (e : Ev (fun k => impl_Spread.f k xs) g) (hg : g.length ≤ 3000000) : Ev (fun k => impl_Fits.f k xs l) (fitsV g l) := by
  unfold impl_Fits.f fitsV
  refine Ev.bind e ?_
  by_cases h : (g.length : Int) > (l.length : Int)
  · rw [if_pos h]; exact Ev.pos h (Ev.now _)
  rw [if_neg h]; refine Ev.neg h ?_
  have hz : (g.zip l).length = g.length := by rw [List.length_zip]; omega
  refine all_ev (fun k i => impl_Fits.l0 k l g (g.length : Int) i) (g.zip l) fitOne ?_ ?_ ?_
  · rw [hz]
    refine Ev.step (f := fun _ => some true) (fun k => ?_) (Ev.now _)
    simp only [impl_Fits.l0]; rw [if_neg (by omega)]
  · intro i x hx hf
    obtain ⟨h1, h2⟩ := zip_get hx
    have l1 := lt_of h1; have l2 := lt_of h2
    refine Ev.step (f := fun _ => some false) (fun k => ?_) (Ev.now _)
    simp only [impl_Fits.l0]
    rw [if_pos (by omega), if_pos (by omega), if_pos (by omega), if_pos (by omega), rd47 h1, rd135 h2]
    unfold fitOne at hf
    by_cases c1 : ((x.1.f0 == 2) == x.2.f3) = true
    · rw [if_pos c1]
    · rw [if_neg c1] at hf ⊢
      by_cases c2 : x.1.f0 = 2
      · rw [if_pos c2] at hf; cases hf
      · rw [if_neg c2] at hf ⊢
        by_cases c3 : x.1.f1 = x.2.f1
        · rw [if_pos c3] at hf ⊢
          rw [if_neg (of_decide_eq_false hf)]
        · rw [if_neg c3]
  · intro i x r hx hf hr
    obtain ⟨h1, h2⟩ := zip_get hx
    have l1 := lt_of h1; have l2 := lt_of h2
    refine Ev.step (fun k => ?_) hr
    simp only [impl_Fits.l0]
    rw [if_pos (by omega), if_pos (by omega), if_pos (by omega), if_pos (by omega), rd47 h1, rd135 h2, w64 (by omega) (by omega)]
    unfold fitOne at hf
    by_cases c1 : ((x.1.f0 == 2) == x.2.f3) = true
    · rw [if_pos c1] at hf; cases hf
    · rw [if_neg c1] at hf ⊢
      by_cases c2 : x.1.f0 = 2
      · rw [if_pos c2]
      · rw [if_neg c2] at hf ⊢
        by_cases c3 : x.1.f1 = x.2.f1
        · rw [if_pos c3] at hf ⊢
          rw [if_pos (of_decide_eq_true hf)]
        · rw [if_neg c3] at hf; cases hf
theorem map_f3 (l : List S43) (h : OkL Ok43 l) : ∀ x ∈ l.map cvS43_S47, x.f3 ≤ 9223372036854775807 := by
  intro x hx
  obtain ⟨y, hy, rfl⟩ := List.mem_map.1 hx
  exact (i64_of (h.2 y hy).2.2.2).2
theorem pure : Pure := by
  intro l0 l1 hl hm
  refine Ev.rounds ?_
  unfold laws_FnExactFits.f
  obtain ⟨v, hv, h⟩ := szItemS_of l0 1048576 hl.1 (by omega) (by omega)
  refine Ev.bind (Ev.const hv) ?_
  rcases h with h | ⟨h0, h1, h2⟩
  · exact Ev.pos h (Ev.now _)
  refine Ev.neg (by omega) ?_
  obtain ⟨v', hv', h'⟩ := szSeenS_of l1 v hm.1 (by omega) (by omega)
  refine Ev.bind (Ev.const hv') ?_
  rcases h' with h' | ⟨h3, h4, h5⟩
  · exact Ev.pos h' (Ev.now _)
  refine Ev.neg (by omega) ?_
  have e1 := toItemS_ev l0 h2
  have f1 := toSeenS_ev l1 h5
  have hf := map_f3 l0 hl
  have hx : (l0.map cvS43_S47).length ≤ 1048576 := by simpa using h2
  have hy : (l1.map cvS137_S135).length ≤ 1048576 := by simpa using h5
  generalize l0.map cvS43_S47 = xs at e1 hf hx
  generalize l1.map cvS137_S135 = ys at f1 hy
  have e2 := spec_Spread_ev xs hx hf
  have e3 := impl_Spread_ev xs hx hf
  have hn : (spreadV xs).length ≤ 3000000 := by have := spread_length xs [] 0 (by simp); unfold spreadV; omega
  have d1 := spec_Fits_ev xs ys _ e2 hn
  have d2 := impl_Fits_ev xs ys _ e3 hn
  generalize fitsV (spreadV xs) ys = b at d1 d2
  have e4 := eqItemS_ev xs (by omega)
  have e5 := eqSeenS_ev ys (by omega)
  repeat (first
    | (with_reducible refine Ev.bind e1 ?_; try dsimp only)
    | (with_reducible refine Ev.bind f1 ?_; try dsimp only)
    | (with_reducible refine Ev.bind d1 ?_; try dsimp only)
    | (with_reducible refine Ev.bind d2 ?_; try dsimp only)
    | (with_reducible refine Ev.bind e4 ?_; try dsimp only)
    | (with_reducible refine Ev.bind e5 ?_; try dsimp only)
    | (refine Ev.pos (by rfl) ?_)
    | (refine Ev.neg (by simp) ?_)
    | exact Ev.now _)
end Go.Proofs.Ytkbabldehmgmaaa.PFnExactFits
namespace Go.Proofs.Ytkbabldehmgmaaa
/-- The given statement. -/
theorem fnExactFits_holds : Rows.FnExactFitsSaid := AFnExactFits.row PFnExactFits.pure
#print axioms fnExactFits_holds
end Go.Proofs.Ytkbabldehmgmaaa
