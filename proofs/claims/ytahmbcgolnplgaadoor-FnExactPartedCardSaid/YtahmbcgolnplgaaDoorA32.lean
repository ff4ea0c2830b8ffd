/- The abstract machine, thirty-second part: a struct that is made with slices that are nil. No claim lies here. -/
import Derived.Test.YtahmbcgolnplgaaDoorA31
set_option linter.unusedVariables false
set_option linter.unusedSimpArgs false
namespace Go.Proofs.YtahmbcgolnplgaaDoorA
open Go
theorem relF_nz {E : Env} {nt : Nat} {tm : Nat → AV} {bk : Nat → Blk} {a : Act} {w : World} {d : Nat} {l l' : List AV} (h : RelF E nt tm bk a w) (hd : tm d = .agg l) (hn : NzL l l') : RelF E nt (fun i => if i = d then .agg l' else tm i) bk a w := by
  obtain ⟨ρ, Zn, hs⟩ := h
  refine ⟨ρ, Zn, hs.upd (fun _ => False) rfl rfl rfl (Nat.le_refl _) (fun _ _ _ => rfl) (fun _ _ => rfl) (fun _ _ => rfl) (fun _ h => h.elim) (fun _ h => h) (fun _ h => .inl h) (fun _ h => h.elim) (fun _ _ h => h.elim) (fun _ _ _ h => h.elim) rfl rfl (fun i => ?_) (fun _ h => h.elim)⟩
  by_cases hi : i = d
  · right
    intro m
    subst hi
    show RepT _ _ _ _ (if i = i then AV.agg l' else tm i) _
    rw [if_pos rfl]
    have h1 := hs.tmp i
    rw [hd] at h1
    obtain ⟨cs, h2, h3⟩ := rep_agg h1
    rw [h2]
    exact .inr (.inr (.inl (.inr ⟨l', cs, rfl, rfl, hn.ok h3⟩)))
  · left; exact ⟨if_neg hi, rfl⟩
theorem okv_nz {P : Program} {E : Env} {nt : Nat} {s : S} {o : Oper} {d : Nat} {l : List AV} {lk tl : List Nat} (l' : List AV) (h : Okv P E nt o s ⟨some d, .agg l, []⟩ lk tl) (hn : NzL l l' := by repeat (first | exact .nil | refine .nz rfl ?_ | refine .keep ?_)) : Okv P E nt o s ⟨some d, .agg l', []⟩ lk tl := by
  intro tm bk hag a w hr
  obtain ⟨m, v, w', h1, h2, h3⟩ := h tm bk hag a w hr
  refine ⟨m, v, w', h1, h2, ?_⟩
  have h4 := relF_nz (d := d) h3 (by show (if d = d then AV.agg l else tm d) = _; rw [if_pos rfl]) hn
  have e1 : (fun i => if i = d then AV.agg l' else putF tm (some d) (.agg l) i) = putF tm (some d) (.agg l') := by
    funext i
    show (if i = d then _ else if i = d then _ else _) = if i = d then _ else _
    by_cases hi : i = d <;> simp [hi]
  have h5 : RelF E nt (putF tm (some d) (.agg l')) (upF bk []) (a.put o.dst v) w' := by rw [← e1]; exact h4
  exact h5
end Go.Proofs.YtahmbcgolnplgaaDoorA
