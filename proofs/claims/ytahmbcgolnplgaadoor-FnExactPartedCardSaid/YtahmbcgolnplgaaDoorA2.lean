/- The abstract machine, second part: states as lists, steps, and what a step of each kind does to the meaning. No claim lies here. -/
import Derived.Test.YtahmbcgolnplgaaDoorA1
set_option linter.unusedVariables false
set_option linter.unusedSimpArgs false
namespace Go.Proofs.YtahmbcgolnplgaaDoorA
open Go

theorem rep_lit {Zf : Fl → Nat → Prop} {w : World} {ρ : Nat → Value} {bk : Nat → Blk} {v u : Value} (h : RepT Zf w ρ bk (.lit v) u) : u = v := by
  rcases h with h | h | h | ⟨l, cs, h, _⟩
  · cases h
  · injection h with h; exact h.symm
  · rcases h with h | ⟨l, cs, h, _⟩
    · rcases h with h | ⟨_, _, _, h, _⟩
      · exact h.1
      · cases h
    · cases h
  · cases h
theorem repC0_one {Zf : Fl → Nat → Prop} {w : World} {ρ : Nat → Value} {bk : Nat → Blk} {x : AV} {u : Value} (h : RepC0 Zf w ρ bk x u) : u.oneCell' = true := by
  cases x with
  | junk => exact h
  | lit v => obtain ⟨rfl, h⟩ := h; exact h
  | box b o => obtain ⟨_, g, _, rfl⟩ := h; rfl
  | row b => exact h.2.2
  | sub b sz lo n => obtain ⟨_, A, N, c, _, _, rfl⟩ := h; rfl
  | elp b sz i j => obtain ⟨_, g, n, c, _, rfl⟩ := h; rfl
  | sl z sz xs => exact RepV.one h
  | rp z x j => obtain ⟨ad, f, rfl, _⟩ := h; rfl
  | _ => exact h.elim
theorem repC_one {Zf : Fl → Nat → Prop} {w : World} {ρ : Nat → Value} {bk : Nat → Blk} {x : AV} {u : Value} (h : RepC Zf w ρ bk x u) : u.oneCell' = true := by
  rcases h with h | ⟨_, _, _, _, rfl, _⟩
  · exact repC0_one h
  · rfl
/-- What is a tmp's value, out of one cell. -/
theorem rep_of_C {Zf : Fl → Nat → Prop} {w : World} {ρ : Nat → Value} {bk : Nat → Blk} {x : AV} {u : Value} (h : RepC Zf w ρ bk x u) : RepT Zf w ρ bk x u := .inr (.inr (.inl (.inl h)))
theorem rep_of_A {Zf : Fl → Nat → Prop} {w : World} {ρ : Nat → Value} {bk : Nat → Blk} {x : AV} {u : Value} (h : RepA Zf w ρ bk x u) : RepT Zf w ρ bk x u := .inr (.inr (.inl h))
/-- A form that lies in one cell. -/
def one1 : AV → Bool
  | .lit _ | .box .. | .row _ | .sub .. | .elp .. | .sl .. | .rp .. => true
  | _ => false
theorem rep_C0 {Zf : Fl → Nat → Prop} {w : World} {ρ : Nat → Value} {bk : Nat → Blk} {x : AV} {u : Value} (h : RepT Zf w ρ bk x u) (h1 : one1 x = true) (hu : u.oneCell' = true) : RepC0 Zf w ρ bk x u := by
  rcases h with rfl | rfl | h | ⟨l, cs, rfl, _⟩
  · cases h1
  · exact ⟨rfl, hu⟩
  · rcases h with h | ⟨l, cs, rfl, _⟩
    · rcases h with h | ⟨_, _, _, rfl, _⟩
      · exact h
      · cases h1
    · cases h1
  · cases h1
def one0 : AV → Bool
  | .box .. | .row _ | .sub .. | .elp .. | .sl .. | .rp .. => true
  | _ => false
theorem rep_C00 {Zf : Fl → Nat → Prop} {w : World} {ρ : Nat → Value} {bk : Nat → Blk} {x : AV} {u : Value} (h : RepT Zf w ρ bk x u) (h1 : one0 x = true) : RepC0 Zf w ρ bk x u := by
  rcases h with rfl | rfl | h | ⟨l, cs, rfl, _⟩
  · cases h1
  · cases h1
  · rcases h with h | ⟨l, cs, rfl, _⟩
    · rcases h with h | ⟨_, _, _, rfl, _⟩
      · exact h
      · cases h1
    · cases h1
  · cases h1
theorem rep_fn {Zf : Fl → Nat → Prop} {w : World} {ρ : Nat → Value} {bk : Nat → Blk} {f : Nat} {caps : List AV} {u : Value} (h : RepT Zf w ρ bk (.fn f caps) u) : ∃ cs : List Value, u = .func (.func f) #[] cs.toArray ∧ Fa (RepA0 Zf w ρ bk) caps cs := by
  rcases h with h | h | h | ⟨l, cs, h, _⟩
  · cases h
  · cases h
  · rcases h with h | ⟨l, cs, h, _⟩
    · rcases h with h | ⟨f', caps', cs, h, h1, h2⟩
      · exact h.elim
      · injection h with h3 h4; subst h3; subst h4; exact ⟨cs, h1, h2⟩
    · cases h
  · cases h
theorem rep_agg {Zf : Fl → Nat → Prop} {w : World} {ρ : Nat → Value} {bk : Nat → Blk} {l : List AV} {u : Value} (h : RepT Zf w ρ bk (.agg l) u) : ∃ cs : List Value, u = .agg cs.toArray ∧ Fa (RepC Zf w ρ bk) l cs := by
  rcases h with h | h | h | ⟨l, cs, h, _⟩
  · cases h
  · cases h
  · rcases h with h | ⟨l', cs, h, h1, h2⟩
    · rcases h with h | ⟨f', caps', cs, h, h1, h2⟩
      · exact h.elim
      · cases h
    · injection h with h; subst h; exact ⟨cs, h1, h2⟩
  · cases h
theorem rep_tup {Zf : Fl → Nat → Prop} {w : World} {ρ : Nat → Value} {bk : Nat → Blk} {l : List AV} {u : Value} (h : RepT Zf w ρ bk (.tup l) u) : ∃ cs : List Value, u = .tuple cs.toArray ∧ Fa (RepA Zf w ρ bk) l cs := by
  rcases h with h | h | h | ⟨l', cs, h, h1, h2⟩
  · cases h
  · cases h
  · rcases h with h | ⟨l', cs, h, h1, h2⟩
    · rcases h with h | ⟨f', caps', cs, h, h1, h2⟩
      · exact h.elim
      · cases h
    · cases h
  · injection h with h; subst h; exact ⟨cs, h1, h2⟩
/-- A form whose value is known to be a cell's, or several cells'. -/
theorem rep_A {Zf : Fl → Nat → Prop} {w : World} {ρ : Nat → Value} {bk : Nat → Blk} {x : AV} {u : Value} (h : RepA Zf w ρ bk x u) : Fa (RepC Zf w ρ bk) x.leaves u.cells.toList := by
  rcases h with h | ⟨l, cs, rfl, rfl, h2⟩
  · have hx : x.leaves = [x] := by
      cases x <;> first | rfl | (rcases h with h | ⟨_, _, _, h, _⟩; exact h.elim; cases h)
    have hu : u.cells = #[u] := by
      have := repC_one h
      cases u <;> first | rfl | cases this
    rw [hx, hu]
    exact Fa.cons h Fa.nil
  · exact h2

/-! States as lists, newest first. -/
def gT : List (Nat × AV) → Nat → AV
  | [], _ => .junk
  | (j, x) :: r, i => match Nat.beq i j with
    | true => x
    | false => gT r i
def gBo : List (Nat × Blk) → Nat → Option Blk
  | [], _ => none
  | (j, x) :: r, i => match Nat.beq i j with
    | true => some x
    | false => gBo r i
def gB (l : List (Nat × Blk)) (i : Nat) : Blk := match gBo l i with
  | some b => b
  | none => .fresh
structure S where
  tm : List (Nat × AV)
  bk : List (Nat × Blk)
structure LA where
  dst : Option Nat
  out : AV
  ups : List (Nat × Blk)
def putT (tm : List (Nat × AV)) (d : Option Nat) (x : AV) : List (Nat × AV) := match d with
  | some d => (d, x) :: tm
  | none => tm
def S.app (s : S) (c : LA) : S := ⟨putT s.tm c.dst c.out, c.ups ++ s.bk⟩
def putF (tm : Nat → AV) (d : Option Nat) (x : AV) : Nat → AV := match d with
  | some d => fun i => if i = d then x else tm i
  | none => tm
def upF (bk : Nat → Blk) (l : List (Nat × Blk)) : Nat → Blk := fun b => match gBo l b with
  | some x => x
  | none => bk b
theorem beq_t {i j : Nat} (h : Nat.beq i j = true) : i = j := Nat.eq_of_beq_eq_true h
theorem beq_f {i j : Nat} (h : Nat.beq i j = false) : i ≠ j := Nat.ne_of_beq_eq_false h
theorem gT_put (tm : List (Nat × AV)) (d : Option Nat) (x : AV) : gT (putT tm d x) = putF (gT tm) d x := by
  cases d with
  | none => rfl
  | some d =>
    funext i
    show (match Nat.beq i d with | true => x | false => gT tm i) = if i = d then x else gT tm i
    cases h : Nat.beq i d with
    | true => simp [beq_t h]
    | false => simp [beq_f h]
theorem gBo_append (l m : List (Nat × Blk)) (i : Nat) : gBo (l ++ m) i = (match gBo l i with | some b => some b | none => gBo m i) := by
  induction l with
  | nil => rfl
  | cons p r ih =>
    obtain ⟨j, x⟩ := p
    show (match Nat.beq i j with | true => some x | false => gBo (r ++ m) i) = (match (match Nat.beq i j with | true => some x | false => gBo r i) with | some b => some b | none => gBo m i)
    cases Nat.beq i j
    · exact ih
    · rfl
theorem gB_append (l m : List (Nat × Blk)) : gB (l ++ m) = upF (gB m) l := by
  funext i
  unfold gB upF
  rw [gBo_append]
  cases gBo l i <;> rfl
def Rel (E : Env) (nt : Nat) (s : S) (a : Act) (w : World) : Prop := RelF E nt (gT s.tm) (gB s.bk) a w
theorem rel_app {E : Env} {nt : Nat} {s : S} {c : LA} {a : Act} {w : World} : Rel E nt (s.app c) a w ↔ RelF E nt (putF (gT s.tm) c.dst c.out) (upF (gB s.bk) c.ups) a w := by
  unfold Rel S.app
  simp only
  rw [gT_put, gB_append]

/-- What a step reads of the state: these tmps, these blocks. -/
def Agree (s : S) (lk tl : List Nat) (tm : Nat → AV) (bk : Nat → Blk) : Prop := (∀ t ∈ lk, tm t = gT s.tm t) ∧ (∀ b ∈ tl, bk b = gB s.bk b)
/-- A step's sound: from every state that agrees. -/
def Okv (P : Program) (E : Env) (nt : Nat) (o : Oper) (s : S) (c : LA) (lk tl : List Nat) : Prop :=
  ∀ tm bk, Agree s lk tl tm bk → ∀ a w, RelF E nt tm bk a w → ∃ n v w', (execOp a.eval o).run P w = .ok n w' ∧ (n = .value v ∨ (n = .skip ∧ v = undef)) ∧ RelF E nt (putF tm c.dst c.out) (upF bk c.ups) (a.put o.dst v) w'

theorem put_eval {a : Act} {d : Nat} {v : Value} (hd : d < a.tmps.size) (i : Nat) : (a.put (some d) v).eval (.tmp i) = if i = d then v else a.eval (.tmp i) := by
  unfold Act.put Act.eval
  simp only [Array.getD_eq_getD_getElem?]
  by_cases h : i = d
  · subst h; simp [hd]
  · rw [if_neg h, Array.getElem?_setIfInBounds_ne (Ne.symm h)]
theorem put_size (a : Act) (d : Option Nat) (v : Value) : (a.put d v).tmps.size = a.tmps.size := by cases d <;> simp [Act.put]
theorem put_defers (a : Act) (d : Option Nat) (v : Value) : (a.put d v).defers = a.defers := by cases d <;> rfl
theorem upF_nil (bk : Nat → Blk) : upF bk [] = bk := rfl

section
variable {P : Program} {E : Env} {nt : Nat} {ρ : Nat → Value} {Zn : Nat → Prop} {tm : Nat → AV} {bk : Nat → Blk} {a : Act} {w : World}
/-- A value alone comes. -/
theorem St.put (h : St E nt ρ Zn tm bk a w) {d : Nat} (hd : Nat.blt d nt = true) {x : AV} {v : Value} (hx : RepT (fz E Zn) w ρ bk x v) : St E nt ρ Zn (putF tm (some d) x) bk (a.put (some d) v) w := by
  have hd' : d < a.tmps.size := by rw [h.ntmps]; exact Nat.blt_eq ▸ hd
  refine h.upd (fun _ => False) rfl rfl rfl (Nat.le_refl _) (fun _ _ _ => rfl) (fun _ _ => rfl) (fun _ _ => rfl) (fun _ h => h.elim) (fun _ h => h) (fun _ h => .inl h) (fun _ h => h.elim) (fun _ _ h => h.elim) (fun _ _ _ h => h.elim) (put_defers _ _ _) (put_size _ _ _) (fun i => ?_) (fun _ h => h.elim)
  rw [put_eval hd']
  show ((if i = d then x else tm i) = tm i ∧ _) ∨ _
  by_cases hi : i = d
  · right; intro m; rw [show putF tm (some d) x i = if i = d then x else tm i from rfl, if_pos hi, if_pos hi]; exact hx
  · left; rw [if_neg hi, if_neg hi]; exact ⟨rfl, rfl⟩
/-- A new block comes: its number is fresh, the world has grown by it. -/
theorem St.new (h : St E nt ρ Zn tm bk a w) {b : Nat} (hb : bk b = .fresh) {x : Blk} {v : Value} {obj : Obj} {w' : World} (hw : w' = w.alloc obj)
    (hB : ∀ ρ' bk', Mv (fz E Zn) (fz E Zn) w w' ρ ρ' bk bk' → BlkOk (fz E Zn) w' ρ' bk' v x) (hr : ∀ k, refB v = some k → k = w.heap.size) (hD : isD x = false := by rfl) : St E nt (fun i => if i = b then v else ρ i) Zn tm (upF bk [(b, x)]) a w' := by
  subst hw
  have hsz : (w.alloc obj).heap.size = w.heap.size + 1 := World.size_alloc w obj
  have hup : ∀ i, upF bk [(b, x)] i = if i = b then x else bk i := by
    intro i
    show (match (match Nat.beq i b with | true => some x | false => none) with | some y => y | none => bk i) = _
    cases he : Nat.beq i b with
    | true => simp [beq_t he]
    | false => simp [beq_f he]
  refine h.upd (fun i => i = b) rfl rfl rfl (by omega) (fun k hk _ => Array.getElem?_push_lt hk |>.trans (Array.getElem?_eq_getElem hk).symm) (fun i hi => if_neg hi) (fun i hi => by rw [hup, if_neg hi]) (fun i hi hne => absurd (hi ▸ hb) hne) (fun _ h => h) (fun _ h => .inl h) (fun i hi m => ?_) (fun i k hi ho => ?_) (fun i j k hi hj _ _ => hi.trans hj.symm) rfl rfl (fun i => .inl ⟨rfl, rfl⟩) (fun i hi => by subst hi; rw [hb, hup, if_pos rfl]; exact ⟨rfl, hD⟩)
  · subst hi
    rw [hup, if_pos rfl, if_pos rfl]
    exact hB _ _ m
  · subst hi
    have h2 : refB (if i = i then v else ρ i) = some k := ho.2
    rw [if_pos rfl] at h2
    have := hr k h2
    subst this
    exact ⟨.inl (Nat.le_refl _), fun hz => absurd (h.zn _ hz).1 (Nat.lt_irrefl _)⟩
end
end Go.Proofs.YtahmbcgolnplgaaDoorA
