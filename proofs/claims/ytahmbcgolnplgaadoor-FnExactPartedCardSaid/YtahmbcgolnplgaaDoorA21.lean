/- The abstract machine, twenty-first part: a part of an own row, frozen as it is taken. No claim lies here. -/
import Derived.Test.YtahmbcgolnplgaaDoorA20
set_option linter.unusedVariables false
set_option linter.unusedSimpArgs false
namespace Go.Proofs.YtahmbcgolnplgaaDoorA
open Go Go.RowKit
section
variable {E : Env} {nt : Nat}
theorem relF_frz {tm : Nat → AV} {bk : Nat → Blk} {a : Act} {w : World} {d b e sz lo n : Nat} {xs ys : List AV} (h : RelF E nt tm bk a w) (hd : tm d = .sub b sz lo n) (hb : bk b = .row e sz xs) (hy : (xs.drop lo).take n = ys) : RelF E nt (fun i => if i = d then .sl .n sz ys else tm i) (fun i => if i = b then .gone else bk i) a w := by
  obtain ⟨ρ, Zn, hs⟩ := h
  have hrow := hs.blk b
  rw [hb] at hrow
  have hlive : live (bk b) = true := by rw [hb]; rfl
  refine ⟨ρ, fun k => Zn k ∨ Own ρ bk b k, ?_⟩
  have own' : ∀ i k, Own ρ (fun i => if i = b then Blk.gone else bk i) i k → i ≠ b ∧ Own ρ bk i k := fun i k ho => by
    by_cases hi : i = b
    · have := ho.1; simp only [hi, if_true] at this; cases this
    · exact ⟨hi, by have := ho.1; simp only [if_neg hi] at this; exact ⟨this, ho.2⟩⟩
  refine hs.upd (fun i => i = b) rfl rfl rfl (Nat.le_refl _) (fun _ _ _ => rfl) (fun _ _ => rfl) (fun i hi => if_neg hi) (fun i hi hf => ⟨by simp [show i = b from hi], rfl⟩) (fun k hk => .inl hk) (fun k hk => ?_) (fun i hi m => ?_) (fun i k hi ho => absurd hi (own' i k ho).1) (fun i i' k hi hi' _ _ => hi.trans hi'.symm) rfl rfl (fun i => ?_) (fun i hi => ⟨by rw [show i = b from hi, hb]; rfl, by simp [show i = b from hi, isD]⟩)
  · rcases hk with hk | hk
    · exact .inl hk
    · exact .inr ⟨hs.own_lt hk, .inr ⟨b, rfl, hk⟩⟩
  · simp only [show i = b from hi, if_true]; trivial
  · by_cases hi : i = d
    · right
      intro m
      subst hi
      have h1 := hs.tmp i
      rw [hd] at h1
      obtain ⟨_, A, N, c, h2, h3, h4⟩ := rep_C00 h1 rfl
      simp only [if_true]
      rw [h4, ← hy]
      rw [h2] at hrow
      exact rep_of_C (.inl (sub_sl (z := .n) hrow h3 (fun k hk => .inl hk) (fun k hk => .inr ⟨hlive, by rw [h2]; exact hk⟩)))
    · exact .inl ⟨if_neg hi, rfl⟩
end
section
variable {P : Program} {E : Env} {nt : Nat} {s : S} {o : Oper} {d : Nat} {α : Type} {f : α → AV} {xs : List α}
theorem okv_frz {b e sz lo n : Nat} {u ys : List AV} {lk : List Nat} (hb : gB s.bk b = .row e sz u) (hy : (u.drop lo).take n = ys) (h : Okv P E nt o s ⟨some d, .sub b sz lo n, []⟩ lk [b]) : Okv P E nt o s ⟨some d, .sl .n sz ys, [(b, .gone)]⟩ lk [b] := by
  intro tm bk hag a w hr
  obtain ⟨m, v, w', h1, h2, h3⟩ := h tm bk hag a w hr
  refine ⟨m, v, w', h1, h2, ?_⟩
  have hb' : bk b = .row e sz u := (hag.2 b (List.mem_singleton.2 rfl)).trans hb
  rw [upF_nil] at h3
  have h4 := relF_frz (d := d) h3 (by show (if d = d then AV.sub b sz lo n else tm d) = _; rw [if_pos rfl]) hb' hy
  rw [upF_one]
  have e1 : (fun i => if i = d then AV.sl .n sz ys else putF tm (some d) (.sub b sz lo n) i) = putF tm (some d) (.sl .n sz ys) := by
    funext i
    show (if i = d then _ else if i = d then _ else _) = if i = d then _ else _
    by_cases hi : i = d <;> simp [hi]
  exact e1 ▸ h4
theorem srLz {T b e' sz : Nat} {x y : Operand} {k : IntKind} {l : Int} (e : Nat) (h0 : 0 ≤ l) (h1 : l ≤ (xs.length : Int)) (hop : o.op = .slice T x (some y) none none := by rfl) (hx : opd s x = .row b := by rfl) (hb : gB s.bk b = .row e' sz (xs.map f) := by rfl) (hy : opd s y = .lit (.int k l) := by rfl) (hT : sliceT P T e sz = true := by kernel_rfl) (hd : o.dst = some d := by rfl) (hlt : Nat.blt d nt = true := by rfl) : Okv P E nt o s ⟨some d, .sl .n sz ((xs.drop l.toNat).map f), [(b, .gone)]⟩ (lkO x ++ lkO y) [b] :=
  okv_frz hb mapD (srL e h0 h1 hop hx hb hy hT hd hlt)
theorem srHz {T b e' sz : Nat} {x y : Operand} {k : IntKind} {h : Int} (e : Nat) (h0 : 0 ≤ h) (h1 : h ≤ (xs.length : Int)) (hop : o.op = .slice T x none (some y) none := by rfl) (hx : opd s x = .row b := by rfl) (hb : gB s.bk b = .row e' sz (xs.map f) := by rfl) (hy : opd s y = .lit (.int k h) := by rfl) (hT : sliceT P T e sz = true := by kernel_rfl) (hd : o.dst = some d := by rfl) (hlt : Nat.blt d nt = true := by rfl) : Okv P E nt o s ⟨some d, .sl .n sz ((xs.take h.toNat).map f), [(b, .gone)]⟩ (lkO x ++ lkO y) [b] :=
  okv_frz hb mapT (srH e h0 h1 hop hx hb hy hT hd hlt)
theorem srLHz {T b e' sz : Nat} {x y y2 : Operand} {k k2 : IntKind} {l h : Int} (e : Nat) (h0 : 0 ≤ l) (h1 : l ≤ h) (h2 : h ≤ (xs.length : Int)) (hop : o.op = .slice T x (some y) (some y2) none := by rfl) (hx : opd s x = .row b := by rfl) (hb : gB s.bk b = .row e' sz (xs.map f) := by rfl) (hy : opd s y = .lit (.int k l) := by rfl) (hy2 : opd s y2 = .lit (.int k2 h) := by rfl) (hT : sliceT P T e sz = true := by kernel_rfl) (hd : o.dst = some d := by rfl) (hlt : Nat.blt d nt = true := by rfl) : Okv P E nt o s ⟨some d, .sl .n sz (((xs.take h.toNat).drop l.toNat).map f), [(b, .gone)]⟩ (lkO x ++ (lkO y ++ lkO y2)) [b] :=
  okv_frz hb mapDT (srLH e h0 h1 h2 hop hx hb hy hy2 hT hd hlt)
end
theorem frl {α : Type} {f : α → AV} {l : List α} {h : Int} (c : h ≤ (l.length : Int)) : h.toNat ≤ (l.map f).length := by rw [List.length_map]; omega
theorem frl' {α : Type} {l : List α} {h : Int} (c : h ≤ (l.length : Int)) : h.toNat ≤ l.length := by omega
end Go.Proofs.YtahmbcgolnplgaaDoorA
