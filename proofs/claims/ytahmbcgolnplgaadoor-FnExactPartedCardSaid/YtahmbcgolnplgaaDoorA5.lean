/- The abstract machine, fifth part: other numbers for the blocks, what may be forgotten; calls. No claim lies here. -/
import Derived.Test.YtahmbcgolnplgaaDoorA4
set_option linter.unusedVariables false
set_option linter.unusedSimpArgs false
namespace Go.Proofs.YtahmbcgolnplgaaDoorA
open Go

/-! Other numbers for the blocks. -/
def ren0 (m : Nat → Nat) : AV → AV
  | .box b o => .box (m b) o
  | .row b => .row (m b)
  | .sub b sz lo n => .sub (m b) sz lo n
  | .elp b sz i j => .elp (m b) sz i j
  | x => x
def ren1 (m : Nat → Nat) : AV → AV
  | .agg l => .agg (l.map (ren0 m))
  | x => ren0 m x
def ren2 (m : Nat → Nat) : AV → AV
  | .fn f caps => .fn f (caps.map (ren1 m))
  | x => ren0 m x
def ren3 (m : Nat → Nat) : AV → AV
  | .agg l => .agg (l.map (ren2 m))
  | x => ren2 m x
def ren4 (m : Nat → Nat) : AV → AV
  | .tup l => .tup (l.map (ren3 m))
  | x => ren3 m x
/-- The leaves of an open row's element. -/
def rlf (m : Nat → Nat) : AV → AV
  | .agg l => .agg (l.map (ren0 m))
  | x => ren0 m x
def renB (m : Nat → Nat) : Blk → Blk
  | .box t l => .box t (l.map (ren2 m))
  | .drow true ds e sz xs => .drow true ds e sz (xs.map (rlf m))
  | b => b
theorem rlf_leaves (m : Nat → Nat) (x : AV) : (rlf m x).leaves = x.leaves.map (ren0 m) := by cases x <;> rfl
theorem Fa.map_left {α β γ : Type} {R : β → γ → Prop} {f : α → β} {l : List α} {m : List γ} : Fa R (l.map f) m ↔ Fa (fun a c => R (f a) c) l m := by
  constructor
  · intro h
    refine ⟨by simpa using h.1, fun i a b ha hb => h.2 i (f a) b (by rw [List.getElem?_map, ha]; rfl) hb⟩
  · intro h
    refine ⟨by simpa using h.1, fun i a b ha hb => ?_⟩
    rw [List.getElem?_map] at ha
    obtain ⟨x, hx, rfl⟩ := Option.map_eq_some_iff.1 ha
    exact h.2 i x b hx hb
section
variable {Zf : Fl → Nat → Prop} {w : World} {ρ : Nat → Value} {bk bk' : Nat → Blk} {m : Nat → Nat}
theorem RepC0.ren (hr : ∀ b, bk (m b) ≠ .fresh → bk' b ≠ .fresh) {x : AV} {u : Value} (h : RepC0 Zf w ρ bk (ren0 m x) u) : RepC0 Zf w (fun b => ρ (m b)) bk' x u := by
  cases x with
  | box b o => obtain ⟨h1, h2⟩ := h; exact ⟨hr b h1, h2⟩
  | row b => obtain ⟨h1, h2⟩ := h; exact ⟨hr b h1, h2⟩
  | sub b sz lo n => obtain ⟨h1, h2⟩ := h; exact ⟨hr b h1, h2⟩
  | elp b sz i j => obtain ⟨h1, h2⟩ := h; exact ⟨hr b h1, h2⟩
  | _ => exact h
theorem RepA0.ren (hr : ∀ b, bk (m b) ≠ .fresh → bk' b ≠ .fresh) {x : AV} {u : Value} (h : RepA0 Zf w ρ bk (ren1 m x) u) : RepA0 Zf w (fun b => ρ (m b)) bk' x u := by
  by_cases hx : ∃ l, x = .agg l
  · obtain ⟨l, rfl⟩ := hx
    rcases h with h | ⟨l', cs, h1, h2, h3⟩
    · exact h.elim
    · injection h1 with h1
      subst h1
      exact .inr ⟨l, cs, rfl, h2, (Fa.map_left.1 h3).imp fun _ _ h => RepC0.ren hr h⟩
  · have e : ren1 m x = ren0 m x := by cases x <;> first | rfl | exact absurd ⟨_, rfl⟩ hx
    rw [e] at h
    rcases h with h | ⟨l', cs, h1, h2, h3⟩
    · exact .inl (RepC0.ren hr h)
    · exact absurd h1 (by cases x <;> first | (intro h; cases h; done) | (intro _; exact hx ⟨_, rfl⟩))
theorem RepC.ren (hr : ∀ b, bk (m b) ≠ .fresh → bk' b ≠ .fresh) {x : AV} {u : Value} (h : RepC Zf w ρ bk (ren2 m x) u) : RepC Zf w (fun b => ρ (m b)) bk' x u := by
  by_cases hx : ∃ f l, x = .fn f l
  · obtain ⟨f, l, rfl⟩ := hx
    rcases h with h | ⟨f', l', cs, h1, h2, h3⟩
    · exact h.elim
    · injection h1 with h1 h4
      subst h1; subst h4
      exact .inr ⟨f, l, cs, rfl, h2, (Fa.map_left.1 h3).imp fun _ _ h => RepA0.ren hr h⟩
  · have e : ren2 m x = ren0 m x := by cases x <;> first | rfl | exact absurd ⟨_, _, rfl⟩ hx
    rw [e] at h
    rcases h with h | ⟨f', l', cs, h1, h2, h3⟩
    · exact .inl (RepC0.ren hr h)
    · exact absurd h1 (by cases x <;> first | (intro h; cases h; done) | (intro _; exact hx ⟨_, _, rfl⟩))
theorem RepA.ren (hr : ∀ b, bk (m b) ≠ .fresh → bk' b ≠ .fresh) {x : AV} {u : Value} (h : RepA Zf w ρ bk (ren3 m x) u) : RepA Zf w (fun b => ρ (m b)) bk' x u := by
  by_cases hx : ∃ l, x = .agg l
  · obtain ⟨l, rfl⟩ := hx
    rcases h with h | ⟨l', cs, h1, h2, h3⟩
    · rcases h with h | ⟨_, _, _, h, _⟩
      · exact h.elim
      · cases h
    · injection h1 with h1
      subst h1
      exact .inr ⟨l, cs, rfl, h2, (Fa.map_left.1 h3).imp fun _ _ h => RepC.ren hr h⟩
  · have e : ren3 m x = ren2 m x := by cases x <;> first | rfl | exact absurd ⟨_, rfl⟩ hx
    rw [e] at h
    rcases h with h | ⟨l', cs, h1, h2, h3⟩
    · exact .inl (RepC.ren hr h)
    · exact absurd h1 (by cases x <;> first | (intro h; cases h; done) | (intro _; exact hx ⟨_, rfl⟩))
theorem RepT.ren (hr : ∀ b, bk (m b) ≠ .fresh → bk' b ≠ .fresh) {x : AV} {u : Value} (h : RepT Zf w ρ bk (ren4 m x) u) : RepT Zf w (fun b => ρ (m b)) bk' x u := by
  by_cases hx : ∃ l, x = .tup l
  · obtain ⟨l, rfl⟩ := hx
    obtain ⟨cs, h2, h3⟩ := rep_tup h
    exact .inr (.inr (.inr ⟨l, cs, rfl, h2, (Fa.map_left.1 h3).imp fun _ _ h => RepA.ren hr h⟩))
  · have e : ren4 m x = ren3 m x := by cases x <;> first | rfl | exact absurd ⟨_, rfl⟩ hx
    rw [e] at h
    rcases h with h | h | h | ⟨l', cs, h1, h2, h3⟩
    · exact .inl (by cases x <;> first | rfl | cases h)
    · refine .inr (.inl ?_)
      cases x <;> first | exact h | cases h
    · exact .inr (.inr (.inl (RepA.ren hr h)))
    · exact absurd h1 (by cases x <;> first | (intro h; cases h; done) | (intro _; exact hx ⟨_, rfl⟩))
theorem BlkOk.ren (hr : ∀ b, bk (m b) ≠ .fresh → bk' b ≠ .fresh) {v : Value} {x : Blk} (h : BlkOk Zf w ρ bk v (renB m x)) : BlkOk Zf w (fun b => ρ (m b)) bk' v x := by
  cases x with
  | box t l =>
    obtain ⟨g, cs, h1, h2, h3⟩ := h
    exact ⟨g, cs, h1, h2, (Fa.map_left.1 h3).imp fun _ _ h => RepC.ren hr h⟩
  | drow op ds e sz xs => trivial
  | _ => exact h
theorem live_ren (m : Nat → Nat) (x : Blk) : live (renB m x) = live x := by
  cases x with
  | drow op ds e sz xs => cases op <;> rfl
  | _ => rfl
theorem isD_ren (m : Nat → Nat) (x : Blk) : isD (renB m x) = isD x := by
  cases x with
  | drow op ds e sz xs => cases op <;> rfl
  | _ => rfl
theorem RowD.ren (hr : ∀ b, bk (m b) ≠ .fresh → bk' b ≠ .fresh) {t : Tr} {op : Bool} {ds : List Ds} {e sz : Nat} {v : Value} {xs ys : List AV} (h : RowD Zf w ρ bk op ds t e sz v ys) (hy : renB m (.drow op ds e sz xs) = .drow op ds e sz ys) : RowD Zf w (fun b => ρ (m b)) bk' op ds t e sz v xs := by
  obtain ⟨h0, inner, ho, hl, hc⟩ := h
  cases op with
  | false =>
    injection hy with _ _ _ _ hy
    subst hy
    refine ⟨h0, inner, ho, hl, fun j x i lv hj hi => ?_⟩
    obtain ⟨u, hu, hv⟩ := hc j x i lv hj hi
    refine ⟨u, hu, ?_⟩
    rcases hv with hv | ⟨c, h1, _⟩
    · exact .inl hv
    · cases h1
  | true =>
    injection hy with _ _ _ _ hy
    subst hy
    rw [List.length_map] at ho
    refine ⟨h0, inner, ho, fun j x hj => ?_, fun j x i lv hj hi => ?_⟩
    · have := hl j (rlf m x) (by rw [List.getElem?_map, hj]; rfl)
      rwa [rlf_leaves, List.length_map] at this
    · obtain ⟨u, hu, hv⟩ := hc j (rlf m x) i (ren0 m lv) (by rw [List.getElem?_map, hj]; rfl) (by rw [rlf_leaves, List.getElem?_map, hi]; rfl)
      refine ⟨u, hu, ?_⟩
      rcases hv with hv | ⟨c, h1, h2, h3, h4, h5⟩
      · left
        generalize ds.getD i .v = q at hv ⊢
        cases lv with
        | row b => cases hv with | v hv => cases hv
        | box b o => cases hv with | v hv => cases hv
        | sub b sz lo n => cases hv with | v hv => cases hv
        | elp b sz i j => cases hv with | v hv => cases hv
        | _ => exact hv
      · right
        cases lv with
        | row b =>
          injection h2 with h2
          subst h2
          exact ⟨b, rfl, rfl, hr b h3, h4, h5⟩
        | _ => cases h2
end

/-- A list of new numbers and the old ones for them; what isn't there is none. -/
def lkN (far : Nat) : List (Nat × Nat) → Nat → Nat
  | [], _ => far
  | (i, j) :: r, b => match Nat.beq b i with
    | true => j
    | false => lkN far r b
def nodupN : List Nat → Bool
  | [] => true
  | x :: r => r.all (fun y => !(Nat.beq x y)) && nodupN r
theorem lkN_mem {far : Nat} {m : List (Nat × Nat)} {b : Nat} : (lkN far m b = far ∧ b ∉ m.map (·.1)) ∨ (b, lkN far m b) ∈ m := by
  induction m with
  | nil => exact .inl ⟨rfl, by simp⟩
  | cons p r ih =>
    obtain ⟨i, j⟩ := p
    show ((match Nat.beq b i with | true => j | false => lkN far r b) = far ∧ _) ∨ (b, (match Nat.beq b i with | true => j | false => lkN far r b)) ∈ _
    cases h : Nat.beq b i with
    | true => right; rw [beq_t h]; exact List.mem_cons_self
    | false =>
      rcases ih with ⟨h1, h2⟩ | h1
      · left; refine ⟨h1, ?_⟩; simp only [List.map_cons, List.mem_cons, not_or]; exact ⟨beq_f h, h2⟩
      · right; exact List.mem_cons_of_mem _ h1
theorem nodupN_inj {m : List (Nat × Nat)} (h : nodupN (m.map (·.2)) = true) {b b' j : Nat} (h1 : (b, j) ∈ m) (h2 : (b', j) ∈ m) : b = b' := by
  induction m with
  | nil => cases h1
  | cons p r ih =>
    obtain ⟨i, k⟩ := p
    have h' : ((r.map (·.2)).all (fun y => !(Nat.beq k y)) && nodupN (r.map (·.2))) = true := h
    rw [Bool.and_eq_true] at h'
    have nk : ∀ b, (b, k) ∈ r → False := fun b hb => by
      have := List.all_eq_true.1 h'.1 k (List.mem_map.2 ⟨_, hb, rfl⟩)
      simp at this
    rcases List.mem_cons.1 h1 with e1 | e1 <;> rcases List.mem_cons.1 h2 with e2 | e2
    · injection e1 with a _; injection e2 with b _; exact a.trans b.symm
    · injection e1 with _ a; subst a; exact (nk _ e2).elim
    · injection e2 with _ a; subst a; exact (nk _ e1).elim
    · exact ih h'.2 e1 e2
/-- The new state's tmps, told by the old one's. -/
def SameT (s : S) (m : Nat → Nat) : List (Nat × AV) → Prop
  | [] => True
  | (i, x) :: r => gT s.tm i = ren4 m x ∧ SameT s m r
/-- The new state's blocks: each live one is the old one's of its old number. -/
def SameB (s : S) (m : Nat → Nat) : List (Nat × Blk) → Prop
  | [] => True
  | (i, x) :: r => gB s.bk (m i) = renB m x ∧ SameB s m r
theorem sameT_get {s : S} {m : Nat → Nat} : ∀ {l : List (Nat × AV)}, SameT s m l → ∀ i, gT l i = .junk ∨ gT s.tm i = ren4 m (gT l i)
  | [], _, i => .inl rfl
  | (j, x) :: r, h, i => by
    show (match Nat.beq i j with | true => x | false => gT r i) = .junk ∨ gT s.tm i = ren4 m (match Nat.beq i j with | true => x | false => gT r i)
    cases he : Nat.beq i j with
    | true => right; rw [beq_t he]; exact h.1
    | false => exact sameT_get h.2 i
theorem sameB_get {s : S} {m : Nat → Nat} : ∀ {l : List (Nat × Blk)}, SameB s m l → ∀ i, (gB l i = .fresh ∧ i ∉ l.map (·.1)) ∨ (i ∈ l.map (·.1) ∧ gB s.bk (m i) = renB m (gB l i))
  | [], _, i => .inl ⟨rfl, by simp⟩
  | (j, x) :: r, h, i => by
    cases he : Nat.beq i j with
    | true =>
      right
      have := beq_t he
      subst this
      have : gB ((i, x) :: r) i = x := by unfold gB; show (match (match Nat.beq i i with | true => some x | false => gBo r i) with | some b => b | none => Blk.fresh) = x; rw [he]
      rw [this]
      exact ⟨by simp, h.1⟩
    | false =>
      have : gB ((j, x) :: r) i = gB r i := by simp only [gB, gBo, he]
      rw [this]
      rcases sameB_get h.2 i with ⟨h1, h2⟩ | ⟨h1, h2⟩
      · left; refine ⟨h1, ?_⟩; simp only [List.map_cons, List.mem_cons, not_or]; exact ⟨beq_f he, h2⟩
      · right; exact ⟨List.mem_cons_of_mem _ h1, h2⟩
def nofresh : List (Nat × Blk) → Bool
  | [] => true
  | (_, .fresh) :: _ => false
  | _ :: r => nofresh r
theorem nofresh_get : ∀ {l : List (Nat × Blk)}, nofresh l = true → ∀ i, i ∈ l.map (·.1) → gB l i ≠ .fresh
  | [], _, i, h => by cases h
  | (j, x) :: r, h, i, hi => by
    have hx : x ≠ .fresh ∧ nofresh r = true := by cases x <;> first | exact ⟨by simp, h⟩ | cases h
    cases he : Nat.beq i j with
    | true =>
      have : gB ((j, x) :: r) i = x := by unfold gB; show (match (match Nat.beq i j with | true => some x | false => gBo r i) with | some b => b | none => Blk.fresh) = x; rw [he]
      rw [this]; exact hx.1
    | false =>
      have : gB ((j, x) :: r) i = gB r i := by simp only [gB, gBo, he]
      rw [this]
      refine nofresh_get hx.2 i ?_
      rcases List.mem_cons.1 hi with hi | hi
      · exact absurd hi (beq_f he)
      · exact hi
def idN : Nat → List (Nat × Nat) → Bool
  | 0, _ => true
  | n + 1, m => Nat.beq (lkN (n + 1) m n) n && idN n m
theorem idN_get : ∀ {n : Nat} {m : List (Nat × Nat)}, idN n m = true → ∀ b, b < n → (b, b) ∈ m
  | 0, _, _, b, h => by omega
  | n + 1, m, h, b, hb => by
    have h' : (Nat.beq (lkN (n + 1) m n) n && idN n m) = true := h
    rw [Bool.and_eq_true] at h'
    by_cases e : b = n
    · subst e
      have h1 := beq_t h'.1
      rcases lkN_mem (far := b + 1) (m := m) (b := b) with ⟨h2, _⟩ | h2
      · omega
      · rwa [h1] at h2
    · exact idN_get h'.2 b (by omega)

section
variable {E : Env} {nt : Nat} {ρ : Nat → Value} {Zn : Nat → Prop} {a : Act} {w : World} {s s' : S}
theorem St.weak {m : List (Nat × Nat)} {far : Nat} (h : St E nt ρ Zn (gT s.tm) (gB s.bk) a w) (hfar : gB s.bk far = .fresh) (hdom : m.map (·.1) = s'.bk.map (·.1)) (hnd : nodupN (m.map (·.2)) = true) (hT : SameT s (lkN far m) s'.tm) (hB : SameB s (lkN far m) s'.bk) (hnf : nofresh s'.bk = true)
    (hfix : ∀ b v, E.ρ0 b = some v → (b, b) ∈ m) (hndk : nodupN (m.map (·.1)) = true) : St E nt (fun b => ρ (lkN far m b)) Zn (gT s'.tm) (gB s'.bk) a w := by
  have hr : ∀ b, gB s.bk (lkN far m b) ≠ .fresh → gB s'.bk b ≠ .fresh := by
    intro b hb
    rcases lkN_mem (far := far) (m := m) (b := b) with ⟨h1, _⟩ | h1
    · rw [h1] at hb; exact absurd hfar hb
    · exact nofresh_get hnf b (by rw [← hdom]; exact List.mem_map.2 ⟨_, h1, rfl⟩)
  have own : ∀ b k, Own (fun b => ρ (lkN far m b)) (gB s'.bk) b k → Own ρ (gB s.bk) (lkN far m b) k ∧ (b, lkN far m b) ∈ m := by
    intro b k ho
    rcases sameB_get hB b with ⟨h1, _⟩ | ⟨h1, h2⟩
    · unfold Own at ho; rw [h1] at ho; cases ho.1
    · refine ⟨⟨?_, ho.2⟩, ?_⟩
      · rw [h2, live_ren]; exact ho.1
      · rcases lkN_mem (far := far) (m := m) (b := b) with ⟨_, h3⟩ | h3
        · rw [hdom] at h3; exact absurd h1 h3
        · exact h3
  obtain ⟨ω, d⟩ := h.deep
  have ownD : ∀ b k, OwnD (fun b => ρ (lkN far m b)) (fun b => ω (lkN far m b)) (gB s'.bk) b k → OwnD ρ ω (gB s.bk) (lkN far m b) k ∧ (b, lkN far m b) ∈ m := by
    intro b k ho
    rcases sameB_get hB b with ⟨h1, _⟩ | ⟨h1, h2⟩
    · unfold OwnD at ho; rw [h1] at ho; cases ho.1
    · refine ⟨⟨by rw [h2, live_ren]; exact ho.1, ?_⟩, ?_⟩
      · rcases ho.2 with h3 | ⟨h3, h4⟩
        · exact .inl h3
        · exact .inr ⟨by rw [h2, isD_ren]; exact h3, h4⟩
      · rcases lkN_mem (far := far) (m := m) (b := b) with ⟨_, h3⟩ | h3
        · rw [hdom] at h3; exact absurd h1 h3
        · exact h3
  refine ⟨h.os, h.tape, h.output, h.size, h.z0, h.keep, h.zi, h.zy, h.zn, fun b v hv => ?_, fun b => ?_, ⟨fun b => ω (lkN far m b), fun b op ds e sz xs hbk => ?_, fun b hbk => ?_, fun b k ho => d.lt _ k (ownD b k ho).1, fun b k ho => d.out _ k (ownD b k ho).1, fun b b' k ho ho' => ?_⟩, h.defers, h.ntmps, fun i => ?_⟩
  · have h1 := hfix b v hv
    have h2 : lkN far m b = b := by
      rcases lkN_mem (far := far) (m := m) (b := b) with ⟨_, h3⟩ | h3
      · exact absurd (List.mem_map.2 ⟨_, h1, rfl⟩) h3
      · -- the keys are without doubles
        have key : ∀ {l : List (Nat × Nat)}, nodupN (l.map (·.1)) = true → ∀ {x y z : Nat}, (x, y) ∈ l → (x, z) ∈ l → y = z := by
          intro l
          induction l with
          | nil => intro _ x y z h; cases h
          | cons p r ih =>
            intro hn x y z h1 h2
            obtain ⟨i, k⟩ := p
            have h' : ((r.map (·.1)).all (fun y => !(Nat.beq i y)) && nodupN (r.map (·.1))) = true := hn
            rw [Bool.and_eq_true] at h'
            have nk : ∀ b, (i, b) ∈ r → False := fun b hb => by
              have := List.all_eq_true.1 h'.1 i (List.mem_map.2 ⟨_, hb, rfl⟩)
              simp at this
            rcases List.mem_cons.1 h1 with e1 | e1 <;> rcases List.mem_cons.1 h2 with e2 | e2
            · injection e1 with _ a; injection e2 with _ b; exact a.trans b.symm
            · injection e1 with a _; subst a; exact (nk _ e2).elim
            · injection e2 with a _; subst a; exact (nk _ e1).elim
            · exact ih h'.2 e1 e2
        exact key hndk h3 h1
    have h3 := h.fix b v hv
    refine ⟨hr b (by rw [h2]; exact h3.1), ?_⟩
    show ρ (lkN far m b) = v
    rw [h2]; exact h3.2
  · rcases sameB_get hB b with ⟨h1, _⟩ | ⟨_, h2⟩
    · rw [h1]; trivial
    · have := h.blk (lkN far m b)
      rw [h2] at this
      exact BlkOk.ren hr this
  · rcases sameB_get hB b with ⟨h1, _⟩ | ⟨_, h2⟩
    · rw [h1] at hbk; cases hbk
    · rw [hbk] at h2
      obtain ⟨ys, hy⟩ : ∃ ys, renB (lkN far m) (.drow op ds e sz xs) = .drow op ds e sz ys := by cases op <;> exact ⟨_, rfl⟩
      exact RowD.ren hr (d.row _ op ds e sz ys (h2.trans hy)) hy
  · rcases sameB_get hB b with ⟨h1, _⟩ | ⟨_, h2⟩
    · rw [h1] at hbk; cases hbk
    · exact d.tree _ (by rw [h2, isD_ren]; exact hbk)
  · have h1 := ownD b k ho
    have h2 := ownD b' k ho'
    have h3 := d.sep _ _ k h1.1 h2.1
    refine nodupN_inj hnd h1.2 ?_
    rw [h3]
    exact h2.2
  · rcases sameT_get hT i with h1 | h1
    · rw [h1]; exact .inl rfl
    · have := h.tmp i
      rw [h1] at this
      exact RepT.ren hr this
end

section
variable {P : Program} {E : Env} {nt : Nat} {s s' : S} {K : Act → World → Prop}
/-- Forgetting, and other numbers. -/
theorem ac_weak {ni : Nat} (hE : ∀ b v, E.ρ0 b = some v → b < ni) (m : List (Nat × Nat)) (far : Nat) (hT : SameT s (lkN far m) s'.tm) (hB : SameB s (lkN far m) s'.bk) (h : ACont E nt s' K)
    (hfar : gB s.bk far = .fresh := by rfl) (hdom : m.map (·.1) = s'.bk.map (·.1) := by rfl) (hnd : nodupN (m.map (·.2)) = true := by rfl) (hnf : nofresh s'.bk = true := by rfl) (hid : idN ni m = true := by rfl) (hndk : nodupN (m.map (·.1)) = true := by rfl) : ACont E nt s K := by
  intro a w ⟨ρ, Zn, hs⟩
  exact h a w ⟨_, Zn, hs.weak hfar hdom hnd hT hB hnf (fun b v hv => idN_get hid b (hE b v hv)) hndk⟩
end

/-! Calls. -/
def enumT : Nat → List AV → List (Nat × AV)
  | _, [] => []
  | i, x :: r => (i, x) :: enumT (i + 1) r
theorem gT_enum : ∀ (l : List AV) (i j : Nat), gT (enumT i l) j = if i ≤ j then (l[j - i]?).getD .junk else .junk
  | [], i, j => by simp [enumT, gT]
  | x :: r, i, j => by
    show (match Nat.beq j i with | true => x | false => gT (enumT (i + 1) r) j) = _
    cases h : Nat.beq j i with
    | true => have := beq_t h; subst this; simp
    | false =>
      have hne := beq_f h
      show gT (enumT (i + 1) r) j = _
      rw [gT_enum r (i + 1) j]
      by_cases hle : i ≤ j
      · rw [if_pos (by omega), if_pos hle, show j - i = (j - (i + 1)) + 1 by omega, List.getElem?_cons_succ]
      · rw [if_neg (by omega), if_neg hle]
/-- The heap's part of a state. -/
def Hp (E : Env) (ρ : Nat → Value) (Zn : Nat → Prop) (bk : Nat → Blk) (w : World) : Prop := St E 0 ρ Zn (fun _ => .junk) bk ⟨#[], []⟩ w
theorem St.hp {E : Env} {nt : Nat} {ρ : Nat → Value} {Zn : Nat → Prop} {tm : Nat → AV} {bk : Nat → Blk} {a : Act} {w : World} (h : St E nt ρ Zn tm bk a w) : Hp E ρ Zn bk w :=
  ⟨h.os, h.tape, h.output, h.size, h.z0, h.keep, h.zi, h.zy, h.zn, h.fix, h.blk, h.deep, rfl, rfl, fun _ => .inl rfl⟩
theorem Hp.st {E : Env} {nt : Nat} {ρ : Nat → Value} {Zn : Nat → Prop} {tm : Nat → AV} {bk : Nat → Blk} {a : Act} {w : World} (h : Hp E ρ Zn bk w) (hd : a.defers = []) (hn : a.tmps.size = nt) (ht : ∀ i, RepT (fz E Zn) w ρ bk (tm i) (a.eval (.tmp i))) : St E nt ρ Zn tm bk a w :=
  ⟨h.os, h.tape, h.output, h.size, h.z0, h.keep, h.zi, h.zy, h.zn, h.fix, h.blk, h.deep, hd, hn, ht⟩
/-- What a call leaves. -/
def Left (E : Env) (post : List (Nat × Blk)) (res : AV) (e : Ending) (w' : World) : Prop := ∃ v ρ' Zn, e = .returned v ∧ Hp E ρ' Zn (gB post) w' ∧ RepT (fz E Zn) w' ρ' (gB post) res v
/-- A contract: from what the arguments mean to what the result means; pre: blocks that are handed over, and come back as post says. -/
def ACalls (P : Program) (f : FuncId) (pre : List (Nat × Blk)) (args : List AV) (post : List (Nat × Blk)) (res : AV) : Prop :=
  ∀ (E : Env) (ρ : Nat → Value) (vs : List Value), Hp E ρ E.Zi (gB pre) E.W0 → (∀ b v, E.ρ0 b = some v → b < pre.length) → Fa (RepT (fz E E.Zi) E.W0 ρ (gB pre)) args vs → Calls P f vs.toArray E.W0 (Left E post res)
theorem acalls {P : Program} {f : FuncId} {fn : Func} {c : Code} {nt : Nat} {pre post : List (Nat × Blk)} {args : List AV} {res : AV} (hf : P.funcs[f]? = some fn) (hb : fn.body = some c) (hnt : fn.ntmps = nt) (hle : args.length ≤ nt)
    (h : ∀ E : Env, (∀ b v, E.ρ0 b = some v → b < pre.length) → AW E nt P c (bodyPost P fn (Left E post res)) ⟨enumT 0 args, pre⟩) : ACalls P f pre args post res := by
  intro E ρ vs hp h0 hargs
  refine calls_of_wp hf hb (h E h0 _ _ ⟨ρ, E.Zi, hp.st rfl ?_ (fun i => ?_)⟩)
  · have := hargs.1
    simp
    omega
  · rw [gT_enum, if_pos (Nat.zero_le _), Nat.sub_zero]
    cases hx : args[i]? with
    | none => exact .inl rfl
    | some x =>
      obtain ⟨v, hv, hr⟩ := hargs.get hx
      have hi := (List.getElem?_eq_some_iff.1 hv).1
      have : ({ tmps := vs.toArray ++ Array.replicate (fn.ntmps - vs.toArray.size) undef, defers := [] } : Act).eval (.tmp i) = v := by
        show Array.getD _ i undef = v
        rw [Array.getD_eq_getD_getElem?, Array.getElem?_append_left (by simpa using hi)]
        simp [hv]
      rw [this]
      exact hr
end Go.Proofs.YtahmbcgolnplgaaDoorA
