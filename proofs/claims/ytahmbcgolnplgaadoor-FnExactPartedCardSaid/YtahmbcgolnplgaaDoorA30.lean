/- The abstract machine, thirtieth part: a row under another number. No claim lies here. -/
import Derived.Test.YtahmbcgolnplgaaDoorA29
set_option linter.unusedVariables false
set_option linter.unusedSimpArgs false
namespace Go.Proofs.YtahmbcgolnplgaaDoorA
open Go Go.RowKit
def rowish : Blk → Bool
  | .row _ _ _ => true
  | .drow false _ _ _ _ => true
  | _ => false
section
variable {E : Env} {nt : Nat} {tm : List (Nat × AV)} {bk : List (Nat × Blk)} {K : Act → World → Prop}
/-- A row in a box's cell gets another number. -/
theorem ac_mvB {b tb : Nat} {X : Blk} {cells : List AV} (q j nb : Nat) (cells' : List AV) (h : ACont E nt ⟨tm, (q, .box tb cells') :: (b, .gone) :: (nb, X) :: bk⟩ K) (hq : gB bk q = .box tb cells := by rfl) (hj : cells[j]? = some (.row b) := by rfl) (hc : cells.set j (.row nb) = cells' := by rfl) (hb : gB bk b = X := by rfl) (hX : rowish X = true := by rfl) (hnb : gB bk nb = .fresh := by rfl) : ACont E nt ⟨tm, bk⟩ K := by
  intro a w ⟨ρ, Zn, hs⟩
  obtain ⟨ω, dd⟩ := hs.deep
  have hblk := hs.blk q
  rw [hq] at hblk
  obtain ⟨g, cs, h2, h3, h4⟩ := hblk
  obtain ⟨u, hv, hr⟩ := h4.get hj
  have hr0 : RepC0 (fz E Zn) w ρ (gB bk) (.row b) u := by
    rcases hr with hr | ⟨_, _, _, hr, _⟩
    · exact hr
    · cases hr
  obtain ⟨hf, hu, hu1⟩ := hr0
  have hlX : live X = true := by cases X with | drow op => rfl | row => rfl | _ => cases hX
  have hne : b ≠ nb := fun e => by subst e; rw [hb] at hnb; rw [hnb] at hX; cases hX
  have hqb : q ≠ b := fun e => by subst e; rw [hq] at hb; rw [← hb] at hX; cases hX
  have hqn : q ≠ nb := fun e => by subst e; rw [hq] at hnb; cases hnb
  have hg : ∀ i, gB ((q, .box tb cells') :: (b, .gone) :: (nb, X) :: bk) i = if i = q then .box tb cells' else if i = b then .gone else if i = nb then X else gB bk i := fun i => by rw [gB_cons, gB_cons, gB_cons]
  obtain ⟨bk', hbk', k0, k1, k2, k3⟩ : ∃ bk' : Nat → Blk, gB ((q, .box tb cells') :: (b, .gone) :: (nb, X) :: bk) = bk' ∧ bk' q = .box tb cells' ∧ bk' b = .gone ∧ bk' nb = X ∧ ∀ x, x ≠ q → x ≠ b → x ≠ nb → bk' x = gB bk x := ⟨_, rfl, by rw [hg, if_pos rfl], by rw [hg, if_neg (Ne.symm hqb), if_pos rfl], by rw [hg, if_neg (Ne.symm hqn), if_neg (Ne.symm hne), if_pos rfl], fun x h1 h2 h3 => by rw [hg, if_neg h1, if_neg h2, if_neg h3]⟩
  obtain ⟨ρ', e1, e2⟩ : ∃ ρ' : Nat → Value, ρ' nb = ρ b ∧ ∀ x, x ≠ nb → ρ' x = ρ x := ⟨fun x => if x = nb then ρ b else ρ x, if_pos rfl, fun x h => if_neg h⟩
  obtain ⟨ω', o2, o3⟩ : ∃ ω' : Nat → Tr, ω' nb = ω b ∧ ∀ x, x ≠ nb → ω' x = ω x := ⟨fun x => if x = nb then ω b else ω x, if_pos rfl, fun x h1 => if_neg h1⟩
  have ownn : ∀ k, OwnD ρ' ω' bk' nb k → OwnD ρ ω (gB bk) b k := fun k ho => by
    obtain ⟨h5, h6⟩ := ho
    rw [k2] at h5 h6
    rw [e1, o2] at h6
    exact ⟨by rw [hb]; exact h5, by rw [hb]; exact h6⟩
  have ownq : ∀ k, OwnD ρ' ω' bk' q k → OwnD ρ ω (gB bk) q k := fun k ho => by
    have h6 := ho.2
    rw [e2 q hqn, k0] at h6
    rcases h6 with h6 | ⟨h6, _⟩
    · exact ⟨by rw [hq]; rfl, .inl h6⟩
    · cases h6
  have owng : ∀ k, ¬ OwnD ρ' ω' bk' b k := fun k ho => by have := ho.1; rw [k1] at this; cases this
  refine h a w ⟨ρ', Zn, ?_⟩
  show St E nt ρ' Zn (gT tm) (gB ((q, .box tb cells') :: (b, .gone) :: (nb, X) :: bk)) a w
  rw [hbk']
  refine hs.gh dd ω' (fun x => x = q ∨ x = b ∨ x = nb) (fun x hx => e2 x fun e => hx (.inr (.inr e))) (fun x hx => k3 x (fun e => hx (.inl e)) (fun e => hx (.inr (.inl e))) (fun e => hx (.inr (.inr e)))) (fun x hx => o3 x fun e => hx (.inr (.inr e))) (fun x hx hnf => ?_) (fun x hx m => ?_) (fun x op1 ds1 e1' sz1 xs1 hx m hbx => ?_) (fun x hx hdx => ?_) (fun x k hx hk => ?_) (fun x y k hx hy hk hk' => ?_)
  · rcases hx with rfl | rfl | rfl
    · rw [k0]; exact ⟨(fun h => by cases h), e2 _ hqn⟩
    · rw [k1]; exact ⟨(fun h => by cases h), e2 _ hne⟩
    · exact absurd hnb hnf
  · rcases hx with rfl | rfl | rfl
    · rw [k0, e2 _ hqn]
      refine ⟨g, cs, h2, h3, ?_⟩
      have h8 := (h4.imp fun _ _ h => RepC.move m h).set j (a := .row nb) (b := u) (.inl ⟨(by rw [k2]; intro h; rw [h] at hX; cases hX), (by rw [e1]; exact hu), hu1⟩)
      rw [hc] at h8
      have e : cs.set j u = cs := by
        apply List.ext_getElem?
        intro k
        rw [List.getElem?_set]
        split
        · rename_i e; subst e
          rw [hv]
          have := (List.getElem?_eq_some_iff.1 hv).1
          simp [this]
        · rfl
      rwa [e] at h8
    · rw [k1]; trivial
    · rw [k2, e1]
      have h9 := hs.blk b
      rw [hb] at h9
      exact h9.move m (fun _ _ _ => rfl)
  · rcases hx with rfl | rfl | rfl
    · rw [k0] at hbx; cases hbx
    · rw [k1] at hbx; cases hbx
    · rw [k2] at hbx
      rw [e1, o2]
      exact (dd.row b _ _ _ _ _ (hb.trans hbx)).move m (fun _ _ => rfl) (fun _ _ _ _ => rfl)
  · rcases hx with rfl | rfl | rfl
    · rw [k0] at hdx; cases hdx
    · rw [k1] at hdx; cases hdx
    · rw [k2] at hdx
      rw [e1, o2]
      exact dd.tree b (by rw [hb]; exact hdx)
  · rcases hx with rfl | rfl | rfl
    · exact ⟨x, .inl rfl, ownq k hk⟩
    · exact absurd hk (owng k)
    · exact ⟨b, .inr (.inl rfl), ownn k hk⟩
  · rcases hx with rfl | rfl | rfl <;> rcases hy with rfl | rfl | rfl
    · rfl
    · exact absurd hk' (owng k)
    · exact absurd (dd.sep _ _ k (ownq k hk) (ownn k hk')) hqb
    · exact absurd hk (owng k)
    · rfl
    · exact absurd hk (owng k)
    · exact absurd (dd.sep _ _ k (ownq k hk') (ownn k hk)) hqb
    · exact absurd hk' (owng k)
    · rfl
end
section
variable {E : Env} {nt : Nat} {s : S}
/-- A row that nobody asks for any more. -/
theorem gh_drop {X : Blk} (b : Nat) (hb : gB s.bk b = X := by rfl) (hX : rowish X = true := by rfl) : Gh E nt s [(b, .gone)] [b] := by
  intro tm bk hag a w ⟨ρ, Zn, hs⟩
  obtain ⟨ω, d⟩ := hs.deep
  have hbk : bk b = X := (hag b List.mem_cons_self).trans hb
  obtain ⟨bk', hbk', k1, k3⟩ : ∃ bk' : Nat → Blk, upF bk [(b, .gone)] = bk' ∧ bk' b = .gone ∧ ∀ x, x ≠ b → bk' x = bk x := ⟨_, upF_one .., if_pos rfl, fun x h1 => if_neg h1⟩
  rw [hbk']
  refine ⟨ρ, Zn, hs.gh d ω (fun x => x = b) (fun _ _ => rfl) (fun x hx => k3 x hx) (fun _ _ => rfl) (fun x hx hnf => ?_) (fun x hx m => ?_) (fun x op1 ds1 e1 sz1 xs1 hx m hbx => ?_) (fun x hx hdx => ?_) (fun x k hx hk => ?_) (fun x y k hx hy hk hk' => hx.trans hy.symm)⟩
  · subst hx; rw [k1]; exact ⟨(fun h => by cases h), rfl⟩
  · subst hx; rw [k1]; trivial
  · subst hx; rw [k1] at hbx; cases hbx
  · subst hx; rw [k1] at hdx; cases hdx
  · subst hx; have := hk.1; rw [k1] at this; cases this
end
end Go.Proofs.YtahmbcgolnplgaaDoorA
