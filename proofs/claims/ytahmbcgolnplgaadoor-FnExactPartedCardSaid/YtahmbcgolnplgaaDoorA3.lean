/- The abstract machine, third part: a region's operations, walked once in the order of the text; where the region draws its order, footprints tell that any order comes to the same. No claim lies here. -/
import Derived.Test.YtahmbcgolnplgaaDoorA2
set_option linter.unusedVariables false
set_option linter.unusedSimpArgs false
namespace Go.Proofs.YtahmbcgolnplgaaDoorA
open Go

section
variable (P : Program) (ops : Array Oper) (Q : Exit → Act → World → Prop) (E : Env) (nt : Nat)
/-- A step of a region is sound: as wpOp wants it. -/
def Snd (i : Nat) (s : S) (c : LA) (lk tl : List Nat) : Prop :=
  ∀ tm bk, Agree s lk tl tm bk → ∀ (K : Act → World → Prop) a w, RelF E nt tm bk a w → (∀ a' w', RelF E nt (putF tm c.dst c.out) (upF bk c.ups) a' w' → K a' w') → wpOp P ops Q i K a w
end
/-- A step's numbers. -/
structure Nm where
  dst : Option Nat
  ids : List Nat
  lk : List Nat
  tl : List Nat
structure Rc where
  c : LA
  lk : List Nat
  tl : List Nat
def Rc.nm (r : Rc) : Nm := ⟨r.c.dst, r.c.ups.map (·.1), r.lk, r.tl⟩
/-- The state behind the steps of a set, in the text's order. -/
def fT (D : Nat → Bool) (tm : Nat → AV) : Nat → List Rc → (Nat → AV)
  | _, [] => tm
  | i, r :: rs => fT D (if D i then putF tm r.c.dst r.c.out else tm) (i + 1) rs
def fB (D : Nat → Bool) (bk : Nat → Blk) : Nat → List Rc → (Nat → Blk)
  | _, [] => bk
  | i, r :: rs => fB D (if D i then upF bk r.c.ups else bk) (i + 1) rs
theorem gBo_none {l : List (Nat × Blk)} {b : Nat} (h : b ∉ l.map (·.1)) : gBo l b = none := by
  induction l with
  | nil => rfl
  | cons p r ih =>
    obtain ⟨j, x⟩ := p
    simp only [List.map_cons, List.mem_cons, not_or] at h
    show (match Nat.beq b j with | true => some x | false => gBo r b) = none
    cases he : Nat.beq b j with
    | true => exact absurd (beq_t he) h.1
    | false => exact ih h.2
theorem gBo_some {l : List (Nat × Blk)} {b : Nat} (h : b ∈ l.map (·.1)) : ∃ x, gBo l b = some x := by
  induction l with
  | nil => cases h
  | cons p r ih =>
    obtain ⟨j, x⟩ := p
    show ∃ y, (match Nat.beq b j with | true => some x | false => gBo r b) = some y
    cases he : Nat.beq b j with
    | true => exact ⟨x, rfl⟩
    | false =>
      rcases List.mem_cons.1 h with h | h
      · exact absurd h (beq_f he)
      · exact ih h
/-- Two sets that hold the same writers of a tmp tell the same of it. -/
theorem fT_congr {D D' : Nat → Bool} {t : Nat} : ∀ (rs : List Rc) (i : Nat) (tm tm' : Nat → AV), tm t = tm' t → (∀ j r, rs[j]? = some r → r.c.dst = some t → D (i + j) = D' (i + j)) → fT D tm i rs t = fT D' tm' i rs t
  | [], _, _, _, h, _ => h
  | r :: rs, i, tm, tm', h, hD => by
    refine fT_congr rs (i + 1) _ _ ?_ (fun j r' hr hd => by have := hD (j + 1) r' (by simpa using hr) hd; rwa [show i + (j + 1) = i + 1 + j by omega] at this)
    cases hd : r.c.dst with
    | none => show (if D i then tm else tm) t = (if D' i then tm' else tm') t; simp [h]
    | some d =>
      by_cases e : d = t
      · subst e
        have := hD 0 r rfl hd
        simp only [Nat.add_zero] at this
        rw [this]
        cases D' i
        · exact h
        · show (if d = d then _ else _) = (if d = d then _ else _); simp
      · have key : ∀ (b : Bool) (f : Nat → AV), (if b then putF f (some d) r.c.out else f) t = f t := by
          intro b f; cases b
          · rfl
          · show (if t = d then _ else f t) = _; rw [if_neg (Ne.symm e)]
        rw [key, key]; exact h
theorem fB_congr {D D' : Nat → Bool} {b : Nat} : ∀ (rs : List Rc) (i : Nat) (bk bk' : Nat → Blk), bk b = bk' b → (∀ j r, rs[j]? = some r → b ∈ r.c.ups.map (·.1) → D (i + j) = D' (i + j)) → fB D bk i rs b = fB D' bk' i rs b
  | [], _, _, _, h, _ => h
  | r :: rs, i, bk, bk', h, hD => by
    refine fB_congr rs (i + 1) _ _ ?_ (fun j r' hr hd => by have := hD (j + 1) r' (by simpa using hr) hd; rwa [show i + (j + 1) = i + 1 + j by omega] at this)
    by_cases hm : b ∈ r.c.ups.map (·.1)
    · have := hD 0 r rfl hm
      simp only [Nat.add_zero] at this
      rw [this]
      obtain ⟨x, hx⟩ := gBo_some hm
      cases D' i
      · exact h
      · show (match gBo r.c.ups b with | some x => x | none => bk b) = (match gBo r.c.ups b with | some x => x | none => bk' b); rw [hx]
    · have key : ∀ (c : Bool) (f : Nat → Blk), (if c then upF f r.c.ups else f) b = f b := by
        intro c f; cases c
        · rfl
        · show (match gBo r.c.ups b with | some x => x | none => f b) = f b; rw [gBo_none hm]
      rw [key, key]; exact h
/-- One step more, whose writers none comes behind. -/
theorem fT_snoc {D D' : Nat → Bool} {k : Nat} {r0 : Rc} : ∀ (rs : List Rc) (i : Nat) (tm : Nat → AV), i ≤ k → rs[k - i]? = some r0 → D k = false → (∀ j, D' j = (D j || j == k)) →
    (∀ j r t, rs[j]? = some r → r.c.dst = some t → r0.c.dst = some t → k < i + j → D (i + j) = false) → fT D' tm i rs = putF (fT D tm i rs) r0.c.dst r0.c.out
  | [], i, tm, _, h, _, _, _ => by simp at h
  | r :: rs, i, tm, hik, h, hk, hD, hw => by
    rcases Nat.lt_or_eq_of_le hik with hlt | rfl
    · have e : D' i = D i := by rw [hD]; have : (i == k) = false := by simp; omega
                                rw [this, Bool.or_false]
      show fT D' (if D' i then _ else _) (i + 1) rs = putF (fT D (if D i then _ else _) (i + 1) rs) _ _
      rw [e]
      exact fT_snoc rs (i + 1) _ hlt (by rw [show k - i = (k - (i + 1)) + 1 by omega] at h; simpa using h) hk hD (fun j r' t hr hd h0 hl => by have := hw (j + 1) r' t (by simpa using hr) hd h0 (by omega); rwa [show i + (j + 1) = i + 1 + j by omega] at this)
    · simp only [Nat.sub_self, List.getElem?_cons_zero, Option.some.injEq] at h
      subst h
      have e : D' i = true := by rw [hD]; simp
      show fT D' (if D' i then _ else _) (i + 1) rs = putF (fT D (if D i then _ else _) (i + 1) rs) _ _
      rw [e, hk]
      simp only [if_true, Bool.false_eq_true, if_false]
      -- from here on the sets are the same, and none writes r's tmp
      have later : ∀ (rs : List Rc) (j0 : Nat) (f : Nat → AV), i < j0 → (∀ j r' t, rs[j]? = some r' → r'.c.dst = some t → r.c.dst = some t → D (j0 + j) = false) → fT D' (putF f r.c.dst r.c.out) j0 rs = putF (fT D f j0 rs) r.c.dst r.c.out := by
        intro rs
        induction rs with
        | nil => intro j0 f _ _; rfl
        | cons r' rs ih =>
          intro j0 f hj hw'
          have e : D' j0 = D j0 := by rw [hD]; have : (j0 == i) = false := by simp; omega
                                      rw [this, Bool.or_false]
          show fT D' (if D' j0 then _ else _) (j0 + 1) rs = putF (fT D (if D j0 then _ else _) (j0 + 1) rs) _ _
          rw [e]
          have hw'' : ∀ j r'' t, rs[j]? = some r'' → r''.c.dst = some t → r.c.dst = some t → D (j0 + 1 + j) = false := fun j r'' t hr hd h0 => by have := hw' (j + 1) r'' t (by simpa using hr) hd h0; rwa [show j0 + (j + 1) = j0 + 1 + j by omega] at this
          cases hDj : D j0 with
          | false => simp only [Bool.false_eq_true, if_false]; exact ih (j0 + 1) f (by omega) hw''
          | true =>
            simp only [if_true]
            have hne : ∀ t, r'.c.dst = some t → r.c.dst ≠ some t := fun t h1 h2 => by have := hw' 0 r' t rfl h1 h2; rw [Nat.add_zero, hDj] at this; cases this
            have comm : putF (putF f r.c.dst r.c.out) r'.c.dst r'.c.out = putF (putF f r'.c.dst r'.c.out) r.c.dst r.c.out := by
              cases h1 : r'.c.dst with
              | none => rfl
              | some t =>
                cases h2 : r.c.dst with
                | none => rfl
                | some t' =>
                  have : t ≠ t' := fun e => hne t h1 (e ▸ h2)
                  funext q
                  show (if q = t then _ else if q = t' then _ else f q) = (if q = t' then _ else if q = t then _ else f q)
                  by_cases q1 : q = t
                  · rw [if_pos q1, if_neg (by rw [q1]; exact this), if_pos q1]
                  · rw [if_neg q1, if_neg q1]
            rw [comm]
            exact ih (j0 + 1) _ (by omega) hw''
      exact later rs (i + 1) tm (by omega) (fun j r' t hr hd h0 => by have := hw (j + 1) r' t (by simpa using hr) hd h0 (by omega); rwa [show i + (j + 1) = i + 1 + j by omega] at this)
theorem upF_comm {l m : List (Nat × Blk)} (h : ∀ b, b ∈ l.map (·.1) → b ∉ m.map (·.1)) (bk : Nat → Blk) : upF (upF bk l) m = upF (upF bk m) l := by
  funext b
  unfold upF
  by_cases h1 : b ∈ l.map (·.1)
  · rw [gBo_none (h b h1)]
  · rw [gBo_none h1]
theorem fB_snoc {D D' : Nat → Bool} {k : Nat} {r0 : Rc} : ∀ (rs : List Rc) (i : Nat) (bk : Nat → Blk), i ≤ k → rs[k - i]? = some r0 → D k = false → (∀ j, D' j = (D j || j == k)) →
    (∀ j r b, rs[j]? = some r → b ∈ r.c.ups.map (·.1) → b ∈ r0.c.ups.map (·.1) → k < i + j → D (i + j) = false) → fB D' bk i rs = upF (fB D bk i rs) r0.c.ups
  | [], i, tm, _, h, _, _, _ => by simp at h
  | r :: rs, i, tm, hik, h, hk, hD, hw => by
    rcases Nat.lt_or_eq_of_le hik with hlt | rfl
    · have e : D' i = D i := by rw [hD]; have : (i == k) = false := by simp; omega
                                rw [this, Bool.or_false]
      show fB D' (if D' i then _ else _) (i + 1) rs = upF (fB D (if D i then _ else _) (i + 1) rs) _
      rw [e]
      exact fB_snoc rs (i + 1) _ hlt (by rw [show k - i = (k - (i + 1)) + 1 by omega] at h; simpa using h) hk hD (fun j r' t hr hd h0 hl => by have := hw (j + 1) r' t (by simpa using hr) hd h0 (by omega); rwa [show i + (j + 1) = i + 1 + j by omega] at this)
    · simp only [Nat.sub_self, List.getElem?_cons_zero, Option.some.injEq] at h
      subst h
      have e : D' i = true := by rw [hD]; simp
      show fB D' (if D' i then _ else _) (i + 1) rs = upF (fB D (if D i then _ else _) (i + 1) rs) _
      rw [e, hk]
      simp only [if_true, Bool.false_eq_true, if_false]
      have later : ∀ (rs : List Rc) (j0 : Nat) (f : Nat → Blk), i < j0 → (∀ j r' b, rs[j]? = some r' → b ∈ r'.c.ups.map (·.1) → b ∈ r.c.ups.map (·.1) → D (j0 + j) = false) → fB D' (upF f r.c.ups) j0 rs = upF (fB D f j0 rs) r.c.ups := by
        intro rs
        induction rs with
        | nil => intro j0 f _ _; rfl
        | cons r' rs ih =>
          intro j0 f hj hw'
          have e : D' j0 = D j0 := by rw [hD]; have : (j0 == i) = false := by simp; omega
                                      rw [this, Bool.or_false]
          show fB D' (if D' j0 then _ else _) (j0 + 1) rs = upF (fB D (if D j0 then _ else _) (j0 + 1) rs) _
          rw [e]
          have hw'' : ∀ j r'' b, rs[j]? = some r'' → b ∈ r''.c.ups.map (·.1) → b ∈ r.c.ups.map (·.1) → D (j0 + 1 + j) = false := fun j r'' t hr hd h0 => by have := hw' (j + 1) r'' t (by simpa using hr) hd h0; rwa [show j0 + (j + 1) = j0 + 1 + j by omega] at this
          cases hDj : D j0 with
          | false => simp only [Bool.false_eq_true, if_false]; exact ih (j0 + 1) f (by omega) hw''
          | true =>
            simp only [if_true]
            rw [upF_comm (fun b h1 h2 => by have := hw' 0 r' b rfl h2 h1; rw [Nat.add_zero, hDj] at this; cases this)]
            exact ih (j0 + 1) _ (by omega) hw''
      exact later rs (i + 1) tm (by omega) (fun j r' t hr hd h0 => by have := hw (j + 1) r' t (by simpa using hr) hd h0 (by omega); rwa [show i + (j + 1) = i + 1 + j by omega] at this)

/-! What comes before what: bits. -/
def needs (o : Oper) : List Nat := (o.after.toList.filter (fun e => Region.binds .any e)).map (·.on)
def orAll (B : List Nat) : List Nat → Nat
  | [] => 0
  | n :: r => Nat.lor (Nat.lor (Nat.shiftLeft 1 n) (B.getD n 0)) (orAll B r)
def befs : List (List Nat) → List Nat → List Nat
  | [], B => B
  | n :: r, B => befs r (B ++ [orAll B n])
def early (N : List (List Nat)) : Nat → Bool := fun i => (N.getD i []).all (fun j => Nat.blt j i)
def disj (l m : List Nat) : Bool := l.all (fun x => m.all (fun y => !(Nat.beq x y)))
def dl : Option Nat → List Nat
  | none => []
  | some d => [d]
/-- Two steps that may come in either order don't meet. -/
def apart2 (x y : Nm) : Bool := disj (dl x.dst) (y.lk ++ dl y.dst) && disj (dl y.dst) x.lk && disj x.ids (y.tl ++ y.ids) && disj y.ids x.tl
def chkI (B : List Nat) (j : Nat) (y : Nm) : Nat → List Nm → Bool
  | _, [] => true
  | i, x :: r => (Nat.ble j i || Nat.testBit (B.getD j 0) i || apart2 x y) && chkI B j y (i + 1) r
def chkJ (B : List Nat) (ns : List Nm) : Nat → List Nm → Bool
  | _, [] => true
  | j, y :: r => chkI B j y 0 ns && chkJ B ns (j + 1) r
def earlyAll : Nat → List (List Nat) → Bool
  | _, [] => true
  | i, n :: r => n.all (fun j => Nat.blt j i) && earlyAll (i + 1) r
def chk (ops : Array Oper) (ns : List Nm) : Bool :=
  let N := ops.toList.map needs
  Nat.beq ns.length N.length && earlyAll 0 N && chkJ (befs N []) ns 0 ns

theorem orAll_bit {B : List Nat} {i : Nat} : ∀ {ns : List Nat}, (orAll B ns).testBit i = true → ∃ n ∈ ns, n = i ∨ (B.getD n 0).testBit i = true
  | [], h => by simp [orAll] at h
  | n :: r, h => by
    have h' : ((1 <<< n ||| B.getD n 0) ||| orAll B r).testBit i = true := h
    rw [Nat.testBit_or, Nat.testBit_or, Bool.or_eq_true, Bool.or_eq_true] at h'
    rcases h' with (h | h) | h
    · rw [Nat.one_shiftLeft, Nat.testBit_two_pow] at h
      exact ⟨n, List.mem_cons_self, .inl (by simpa using h)⟩
    · exact ⟨n, List.mem_cons_self, .inr h⟩
    · obtain ⟨m, hm, h2⟩ := orAll_bit h
      exact ⟨m, List.mem_cons_of_mem _ hm, h2⟩
theorem getD_l {α : Type} {l m : List α} {i : Nat} {d : α} (h : i < l.length) : (l ++ m).getD i d = l.getD i d := by rw [List.getD_eq_getElem?_getD, List.getD_eq_getElem?_getD, List.getElem?_append_left h]
theorem getD_r {α : Type} {l m : List α} {i : Nat} {d : α} (h : l.length ≤ i) : (l ++ m).getD i d = m.getD (i - l.length) d := by rw [List.getD_eq_getElem?_getD, List.getD_eq_getElem?_getD, List.getElem?_append_right h]
theorem befs_spec : ∀ (N : List (List Nat)) (B : List Nat) (M : List (List Nat)), B.length = M.length → (∀ j i, ((B.getD j 0).testBit i = true → ∃ n ∈ M.getD j [], n = i ∨ (n < j ∧ (B.getD n 0).testBit i = true))) → earlyAll B.length N = true →
    (∀ j i, (((befs N B).getD j 0).testBit i = true → ∃ n ∈ (M ++ N).getD j [], n = i ∨ (n < j ∧ ((befs N B).getD n 0).testBit i = true)))
  | [], B, M, hl, h, _ => by simpa [befs] using h
  | n :: r, B, M, hl, h, he => by
    have he' : (n.all (fun j => Nat.blt j B.length) && earlyAll (B.length + 1) r) = true := he
    rw [Bool.and_eq_true] at he'
    have := befs_spec r (B ++ [orAll B n]) (M ++ [n]) (by simp [hl]) (fun j i hb => ?_) (by simpa using he'.2)
    · intro j i hb
      have := this j i hb
      rw [List.append_assoc, List.singleton_append] at this
      exact this
    · rcases Nat.lt_trichotomy j B.length with hj | hj | hj
      · rw [getD_l hj] at hb
        obtain ⟨m, hm, h2⟩ := h j i hb
        refine ⟨m, by rw [getD_l (by omega)]; exact hm, h2.imp id (fun h3 => ⟨h3.1, ?_⟩)⟩
        rw [getD_l (by omega)]
        exact h3.2
      · subst hj
        rw [getD_r (Nat.le_refl _), Nat.sub_self] at hb
        obtain ⟨m, hm, h2⟩ := orAll_bit (B := B) (ns := n) (by simpa using hb)
        have hmlt : m < B.length := by
          have := List.all_eq_true.1 he'.1 m hm
          exact Nat.blt_eq ▸ this
        refine ⟨m, by rw [hl, getD_r (Nat.le_refl _), Nat.sub_self]; simpa using hm, h2.imp id (fun h3 => ⟨hmlt, ?_⟩)⟩
        rw [getD_l hmlt]
        exact h3
      · rw [List.getD_eq_getElem?_getD, List.getElem?_eq_none (by simp; omega)] at hb
        simp at hb
/-- In a closed set, what comes before a member (or before what is ready) is there. -/
theorem closed_bit {N : List (List Nat)} {D : Nat → Bool} (hE : earlyAll 0 N = true) (hc : ∀ j, D j = true → ∀ n ∈ N.getD j [], D n = true) : ∀ j, (∀ n ∈ N.getD j [], D n = true) → ∀ i, ((befs N []).getD j 0).testBit i = true → D i = true := by
  have key := befs_spec N [] [] rfl (fun j i h => by simp at h) (by simpa using hE)
  simp only [List.nil_append] at key
  intro j
  induction j using Nat.strongRecOn with
  | _ j ih =>
    intro hn i hb
    obtain ⟨n, hm, h⟩ := key j i hb
    have hD := hn n hm
    rcases h with rfl | ⟨hlt, h2⟩
    · exact hD
    · exact ih n hlt (hc n hD) i h2

theorem needs_all (o : Oper) (p : Nat → Bool) : o.after.all (fun e => !Region.binds .any e || p e.on) = (needs o).all p := by
  unfold needs
  rw [← Array.all_toList]
  induction o.after.toList with
  | nil => rfl
  | cons e r ih =>
    rw [List.all_cons, ih, List.filter_cons]
    cases h : Region.binds .any e <;> simp
theorem chkI_spec {B : List Nat} {j : Nat} {y : Nm} : ∀ {ns : List Nm} {i0 : Nat}, chkI B j y i0 ns = true → ∀ (i : Nat) (x : Nm), ns[i]? = some x → i0 + i < j → (B.getD j 0).testBit (i0 + i) = false → apart2 x y = true
  | [], _, _, i, x, hx, _, _ => by simp at hx
  | z :: r, i0, h, i, x, hx, hlt, hb => by
    have h' : ((Nat.ble j i0 || Nat.testBit (B.getD j 0) i0 || apart2 z y) && chkI B j y (i0 + 1) r) = true := h
    rw [Bool.and_eq_true] at h'
    cases i with
    | zero =>
      simp only [List.getElem?_cons_zero, Option.some.injEq] at hx
      subst hx
      have h1 := h'.1
      rw [Nat.add_zero] at hb hlt
      rw [Bool.or_eq_true, Bool.or_eq_true, hb] at h1
      rcases h1 with (h1 | h1) | h1
      · exact absurd (Nat.le_of_ble_eq_true h1) (by omega)
      · cases h1
      · exact h1
    | succ i => exact chkI_spec h'.2 i x (by simpa using hx) (by omega) (by rwa [show i0 + 1 + i = i0 + (i + 1) by omega])
theorem chkJ_spec {B : List Nat} {ns : List Nm} : ∀ {ms : List Nm} {j0 : Nat}, chkJ B ns j0 ms = true → ∀ (j : Nat) (y : Nm), ms[j]? = some y → chkI B (j0 + j) y 0 ns = true
  | [], _, _, j, y, hy => by simp at hy
  | z :: r, j0, h, j, y, hy => by
    have h' : (chkI B j0 z 0 ns && chkJ B ns (j0 + 1) r) = true := h
    rw [Bool.and_eq_true] at h'
    cases j with
    | zero =>
      simp only [List.getElem?_cons_zero, Option.some.injEq] at hy
      subst hy
      exact h'.1
    | succ j => have := chkJ_spec h'.2 j y (by simpa using hy); rwa [show j0 + 1 + j = j0 + (j + 1) by omega] at this
theorem disj_spec {l m : List Nat} (h : disj l m = true) {x : Nat} (hx : x ∈ l) (hy : x ∈ m) : False := by
  have h1 := List.all_eq_true.1 h x hx
  have h2 := List.all_eq_true.1 h1 x hy
  simp at h2
theorem earlyAll_spec : ∀ {N : List (List Nat)} {i0 : Nat}, earlyAll i0 N = true → ∀ (i n : Nat), n ∈ N.getD i [] → n < i0 + i
  | [], _, _, i, n, h => by simp at h
  | z :: r, i0, h, i, n, hn => by
    have h' : (z.all (fun j => Nat.blt j i0) && earlyAll (i0 + 1) r) = true := h
    rw [Bool.and_eq_true] at h'
    cases i with
    | zero =>
      have := List.all_eq_true.1 h'.1 n (by simpa using hn)
      exact Nat.blt_eq ▸ this
    | succ i => have := earlyAll_spec h'.2 i n (by simpa using hn); omega

def sta (s0 : S) (rs : List Rc) (i : Nat) : S := (rs.take i).foldl (fun s r => s.app r.c) s0
theorem fT_all (rs : List Rc) : ∀ (s0 : S) (i : Nat), gT (rs.foldl (fun s r => s.app r.c) s0).tm = fT (fun _ => true) (gT s0.tm) i rs := by
  induction rs with
  | nil => intro s0 i; rfl
  | cons r rs ih => intro s0 i; rw [List.foldl_cons, ih (s0.app r.c) (i + 1)]; unfold S.app; simp only; rw [gT_put]; first | done | rfl
theorem fB_all (rs : List Rc) : ∀ (s0 : S) (i : Nat), gB (rs.foldl (fun s r => s.app r.c) s0).bk = fB (fun _ => true) (gB s0.bk) i rs := by
  induction rs with
  | nil => intro s0 i; rfl
  | cons r rs ih => intro s0 i; rw [List.foldl_cons, ih (s0.app r.c) (i + 1)]; unfold S.app; simp only; rw [gB_append]; first | done | rfl
theorem fT_none : ∀ (rs : List Rc) (i n : Nat) (tm : Nat → AV), n ≤ i → fT (fun j => decide (j < n)) tm i rs = tm
  | [], _, _, _, _ => rfl
  | r :: rs, i, n, tm, h => by
    show fT _ (if decide (i < n) = true then _ else tm) (i + 1) rs = tm
    rw [if_neg (by simpa using h)]
    exact fT_none rs (i + 1) n tm (by omega)
theorem fB_none : ∀ (rs : List Rc) (i n : Nat) (bk : Nat → Blk), n ≤ i → fB (fun j => decide (j < n)) bk i rs = bk
  | [], _, _, _, _ => rfl
  | r :: rs, i, n, bk, h => by
    show fB _ (if decide (i < n) = true then _ else bk) (i + 1) rs = bk
    rw [if_neg (by simpa using h)]
    exact fB_none rs (i + 1) n bk (by omega)
theorem fT_take : ∀ (rs : List Rc) (i n : Nat) (tm : Nat → AV), fT (fun j => decide (j < i + n)) tm i rs = fT (fun _ => true) tm i (rs.take n)
  | [], _, _, _ => by simp [fT]
  | r :: rs, i, 0, tm => by rw [fT_none _ _ _ _ (by omega)]; rfl
  | r :: rs, i, n + 1, tm => by
    show fT _ (if decide (i < i + (n + 1)) = true then _ else tm) (i + 1) rs = fT _ (if true = true then _ else tm) (i + 1) (rs.take n)
    rw [if_pos (by simp), if_pos rfl, ← fT_take rs (i + 1) n]
    congr 1
    funext j
    rw [show i + (n + 1) = i + 1 + n by omega]
theorem fB_take : ∀ (rs : List Rc) (i n : Nat) (bk : Nat → Blk), fB (fun j => decide (j < i + n)) bk i rs = fB (fun _ => true) bk i (rs.take n)
  | [], _, _, _ => by simp [fB]
  | r :: rs, i, 0, tm => by rw [fB_none _ _ _ _ (by omega)]; rfl
  | r :: rs, i, n + 1, tm => by
    show fB _ (if decide (i < i + (n + 1)) = true then _ else tm) (i + 1) rs = fB _ (if true = true then _ else tm) (i + 1) (rs.take n)
    rw [if_pos (by simp), if_pos rfl, ← fB_take rs (i + 1) n]
    congr 1
    funext j
    rw [show i + (n + 1) = i + 1 + n by omega]
theorem sta_T (s0 : S) (rs : List Rc) (n : Nat) : gT (sta s0 rs n).tm = fT (fun j => decide (j < n)) (gT s0.tm) 0 rs := by
  have := fT_take rs 0 n (gT s0.tm)
  rw [Nat.zero_add] at this
  rw [this]
  exact fT_all _ _ _
theorem sta_B (s0 : S) (rs : List Rc) (n : Nat) : gB (sta s0 rs n).bk = fB (fun j => decide (j < n)) (gB s0.bk) 0 rs := by
  have := fB_take rs 0 n (gB s0.bk)
  rw [Nat.zero_add] at this
  rw [this]
  exact fB_all _ _ _
theorem nm_get {rs : List Rc} {i : Nat} {r : Rc} (h : rs[i]? = some r) : (rs.map Rc.nm)[i]? = some r.nm := by rw [List.getElem?_map, h]; rfl

section
variable {P : Program} {ops : Array Oper} {Q : Exit → Act → World → Prop} {E : Env} {nt : Nat} {s0 : S} {rs : List Rc}
/-- Any order comes to the same. -/
theorem any_of (hch : ∀ i r, rs[i]? = some r → Snd P ops Q E nt i (sta s0 rs i) r.c r.lk r.tl) (hck : chk ops (rs.map Rc.nm) = true)
    (hQ : ∀ a w, Rel E nt (sta s0 rs rs.length) a w → Q .normal a w) : ∀ (fuel : Nat) (L : Array Bool), L.size = ops.size → (L.toList.filter (!·)).length ≤ fuel →
    (∀ j, L.getD j false = true → ∀ n ∈ (ops.toList.map needs).getD j [], L.getD n false = true) →
    ∀ a w, RelF E nt (fT (fun j => L.getD j false) (gT s0.tm) 0 rs) (fB (fun j => L.getD j false) (gB s0.bk) 0 rs) a w → wpAny P .any ops Q fuel L a w := by
  unfold chk at hck
  simp only [Bool.and_eq_true] at hck
  obtain ⟨⟨hlen, hE⟩, hJ⟩ := hck
  have hlen : rs.length = ops.size := by have := Nat.eq_of_beq_eq_true hlen; simpa using this
  have getN : ∀ i o, ops[i]? = some o → (ops.toList.map needs).getD i [] = needs o := by
    intro i o ho
    have ho' : ops.toList[i]? = some o := by rw [Array.getElem?_toList]; exact ho
    rw [List.getD_eq_getElem?_getD, List.getElem?_map, ho']; rfl
  -- all listed: done
  have all_done : ∀ L : Array Bool, L.size = ops.size → (∀ j, j < ops.size → L.getD j false = true) → ∀ a w, RelF E nt (fT (fun j => L.getD j false) (gT s0.tm) 0 rs) (fB (fun j => L.getD j false) (gB s0.bk) 0 rs) a w → Q .normal a w := by
    intro L hL hall a w h
    refine hQ a w ?_
    unfold Rel
    rw [sta_T, sta_B]
    have e1 : fT (fun j => decide (j < rs.length)) (gT s0.tm) 0 rs = fT (fun j => L.getD j false) (gT s0.tm) 0 rs := by
      funext t
      refine fT_congr rs 0 _ _ rfl (fun j r hr _ => ?_)
      have hj := (List.getElem?_eq_some_iff.1 hr).1
      rw [Nat.zero_add, hall j (by omega)]; simpa using hj
    have e2 : fB (fun j => decide (j < rs.length)) (gB s0.bk) 0 rs = fB (fun j => L.getD j false) (gB s0.bk) 0 rs := by
      funext t
      refine fB_congr rs 0 _ _ rfl (fun j r hr _ => ?_)
      have hj := (List.getElem?_eq_some_iff.1 hr).1
      rw [Nat.zero_add, hall j (by omega)]; simpa using hj
    rw [e1, e2]
    exact h
  have lget : ∀ (L : Array Bool) (j : Nat) (d : Bool), j < L.size → L.getD j d = L.getD j false := by
    intro L j d hj
    rw [Array.getD_eq_getD_getElem?, Array.getD_eq_getD_getElem?, Array.getElem?_eq_getElem hj]; rfl
  -- nothing ready: all listed
  have none_ready : ∀ L : Array Bool, L.size = ops.size → Region.ready .any ops L = [] → ∀ j, j < ops.size → L.getD j false = true := by
    intro L hL hr j
    induction j using Nat.strongRecOn with
    | _ j ih =>
      intro hj
      cases hc : L.getD j false with
      | true => rfl
      | false =>
        exfalso
        have hm : j ∈ Region.ready .any ops L := by
          unfold Region.ready
          rw [List.mem_filter, List.mem_range]
          refine ⟨hj, ?_⟩
          rw [lget L j true (by omega), hc, Array.getElem?_eq_getElem hj]
          simp only [Bool.not_false, Bool.true_and, Option.map_some, Option.getD_some]
          rw [needs_all _ (fun n => L.getD n false), List.all_eq_true]
          intro n hn
          have h1 := earlyAll_spec hE j n (by rw [getN j _ (Array.getElem?_eq_getElem hj)]; exact hn)
          exact ih n (by omega) (by omega)
        rw [hr] at hm; cases hm
  -- two steps that meet are in order
  have meet : ∀ {i j : Nat} {ri rj : Rc}, rs[i]? = some ri → rs[j]? = some rj → i < j → ((befs (ops.toList.map needs) []).getD j 0).testBit i = false → apart2 ri.nm rj.nm = true := by
    intro i j ri rj hi hj hlt hb
    have h1 := chkJ_spec hJ j _ (nm_get hj)
    rw [Nat.zero_add] at h1
    exact chkI_spec h1 i _ (nm_get hi) (by omega) (by rwa [Nat.zero_add])
  intro fuel
  induction fuel with
  | zero =>
    intro L hL hcnt hcl a w h
    have hall : ∀ j, j < ops.size → L.getD j false = true := by
      intro j hj
      cases hc : L.getD j false with
      | true => rfl
      | false =>
        exfalso
        have hm : false ∈ L.toList.filter (!·) := by
          rw [List.mem_filter]
          refine ⟨?_, rfl⟩
          rw [← hc, Array.getD_eq_getD_getElem?, Array.getElem?_eq_getElem (by omega)]
          exact Array.getElem_mem_toList (by omega)
        have := List.length_pos_of_mem hm
        omega
    refine ⟨?_, all_done L hL hall a w h⟩
    unfold Region.ready
    rw [List.filter_eq_nil_iff]
    intro j hj
    have hj' := List.mem_range.1 hj
    rw [lget L j true (by omega), hall j hj']
    simp
  | succ fuel ih =>
    intro L hL hcnt hcl a w h
    refine ⟨fun hr => all_done L hL (none_ready L hL hr) a w h, fun i hi => ?_⟩
    unfold Region.ready at hi
    rw [List.mem_filter, List.mem_range] at hi
    obtain ⟨hin, hi⟩ := hi
    rw [Bool.and_eq_true, lget L i true (by omega), Array.getElem?_eq_getElem hin] at hi
    simp only [Option.map_some, Option.getD_some] at hi
    obtain ⟨hiF, hdeps⟩ := hi
    have hiF : L.getD i false = false := by simpa using hiF
    rw [needs_all _ (fun n => L.getD n false), List.all_eq_true] at hdeps
    have hdeps' : ∀ n ∈ (ops.toList.map needs).getD i [], L.getD n false = true := by
      intro n hn
      rw [getN i _ (Array.getElem?_eq_getElem hin)] at hn
      exact hdeps n hn
    have hir : i < rs.length := by omega
    obtain ⟨r, hr⟩ : ∃ r, rs[i]? = some r := ⟨_, List.getElem?_eq_getElem hir⟩
    have before : ∀ k, ((befs (ops.toList.map needs) []).getD i 0).testBit k = true → L.getD k false = true := closed_bit hE hcl i hdeps'
    have notAfter : ∀ k, L.getD k false = true → ((befs (ops.toList.map needs) []).getD k 0).testBit i = false := by
      intro k hk
      cases hb : ((befs (ops.toList.map needs) []).getD k 0).testBit i with
      | false => rfl
      | true =>
        have := closed_bit (D := fun j => L.getD j false) hE hcl k (hcl k hk) i hb
        rw [hiF] at this; cases this
    have agree : Agree (sta s0 rs i) r.lk r.tl (fT (fun j => L.getD j false) (gT s0.tm) 0 rs) (fB (fun j => L.getD j false) (gB s0.bk) 0 rs) := by
      refine ⟨fun t ht => ?_, fun b hb => ?_⟩
      · rw [sta_T]
        refine fT_congr rs 0 _ _ rfl (fun k rk hk hd => ?_)
        rw [Nat.zero_add]
        rcases Nat.lt_trichotomy k i with hlt | rfl | hgt
        · rw [show decide (k < i) = true by simpa using hlt]
          cases hb : ((befs (ops.toList.map needs) []).getD i 0).testBit k with
          | true => exact before k hb
          | false =>
            have h1 := meet hk hr hlt hb
            unfold apart2 at h1
            simp only [Bool.and_eq_true] at h1
            exact (disj_spec h1.1.1.1 (x := t) (by show t ∈ dl rk.c.dst; rw [hd]; exact List.mem_singleton.2 rfl) (List.mem_append_left _ ht)).elim
        · rw [hiF]; simp
        · rw [show decide (k < i) = false by simp; omega]
          cases hc : L.getD k false with
          | false => rfl
          | true =>
            have h1 := meet hr hk hgt (notAfter k hc)
            unfold apart2 at h1
            simp only [Bool.and_eq_true] at h1
            exact (disj_spec h1.1.1.2 (x := t) (by show t ∈ dl rk.c.dst; rw [hd]; exact List.mem_singleton.2 rfl) ht).elim
      · rw [sta_B]
        refine fB_congr rs 0 _ _ rfl (fun k rk hk hd => ?_)
        rw [Nat.zero_add]
        rcases Nat.lt_trichotomy k i with hlt | rfl | hgt
        · rw [show decide (k < i) = true by simpa using hlt]
          cases hbb : ((befs (ops.toList.map needs) []).getD i 0).testBit k with
          | true => exact before k hbb
          | false =>
            have h1 := meet hk hr hlt hbb
            unfold apart2 at h1
            simp only [Bool.and_eq_true] at h1
            exact (disj_spec h1.1.2 (x := b) hd (List.mem_append_left _ hb)).elim
        · rw [hiF]; simp
        · rw [show decide (k < i) = false by simp; omega]
          cases hc : L.getD k false with
          | false => rfl
          | true =>
            have h1 := meet hr hk hgt (notAfter k hc)
            unfold apart2 at h1
            simp only [Bool.and_eq_true] at h1
            exact (disj_spec h1.2 (x := b) hd hb).elim
    refine hch i r hr _ _ agree _ a w h (fun a' w' h' => ?_)
    have hset : ∀ j, (L.setIfInBounds i true).getD j false = (L.getD j false || j == i) := by
      intro j
      rw [Array.getD_eq_getD_getElem?, Array.getD_eq_getD_getElem?, Array.getElem?_setIfInBounds]
      by_cases e : i = j
      · subst e; rw [if_pos rfl, if_pos (by omega)]; simp
      · rw [if_neg e, show (j == i) = false by simp; omega, Bool.or_false]
    refine ih (L.setIfInBounds i true) (by simpa using hL) ?_ ?_ a' w' ?_
    · have hi' : i < L.toList.length := by simpa [hL] using hin
      have : (L.setIfInBounds i true).toList = L.toList.set i true := by simp
      rw [this]
      have hgen : ∀ (l : List Bool) (i : Nat), l[i]? = some false → ((l.set i true).filter (!·)).length + 1 ≤ (l.filter (!·)).length := by
        intro l
        induction l with
        | nil => intro i h; simp at h
        | cons x l ih' =>
          intro i h
          cases i with
          | zero => simp only [List.getElem?_cons_zero, Option.some.injEq] at h; subst h; simp
          | succ i =>
            have := ih' i (by simpa using h)
            cases x <;> simp <;> omega
      have := hgen L.toList i (by
        rw [Array.getElem?_toList, Array.getElem?_eq_getElem (by omega)]
        rw [Array.getD_eq_getD_getElem?, Array.getElem?_eq_getElem (by omega)] at hiF
        rw [← hiF]; rfl)
      omega
    · intro j hj n hn
      rw [hset] at hj ⊢
      rw [Bool.or_eq_true] at hj ⊢
      rcases hj with hj | hj
      · exact .inl (hcl j hj n hn)
      · have : j = i := by simpa using hj
        subst this
        exact .inl (hdeps' n hn)
    · have e1 : fT (fun j => (L.setIfInBounds i true).getD j false) (gT s0.tm) 0 rs = putF (fT (fun j => L.getD j false) (gT s0.tm) 0 rs) r.c.dst r.c.out := by
        refine fT_snoc (k := i) rs 0 _ (Nat.zero_le _) (by rw [Nat.sub_zero]; exact hr) hiF hset (fun k rk t hk hd h0 hlt => ?_)
        rw [Nat.zero_add] at hlt ⊢
        cases hc : L.getD k false with
        | false => rfl
        | true =>
          have h1 := meet hr hk hlt (notAfter k hc)
          unfold apart2 at h1
          simp only [Bool.and_eq_true] at h1
          exact (disj_spec h1.1.1.1 (x := t) (by show t ∈ dl r.c.dst; rw [h0]; exact List.mem_singleton.2 rfl) (List.mem_append_right _ (by show t ∈ dl rk.c.dst; rw [hd]; exact List.mem_singleton.2 rfl))).elim
      have e2 : fB (fun j => (L.setIfInBounds i true).getD j false) (gB s0.bk) 0 rs = upF (fB (fun j => L.getD j false) (gB s0.bk) 0 rs) r.c.ups := by
        refine fB_snoc (k := i) rs 0 _ (Nat.zero_le _) (by rw [Nat.sub_zero]; exact hr) hiF hset (fun k rk b hk hd h0 hlt => ?_)
        rw [Nat.zero_add] at hlt ⊢
        cases hc : L.getD k false with
        | false => rfl
        | true =>
          have h1 := meet hr hk hlt (notAfter k hc)
          unfold apart2 at h1
          simp only [Bool.and_eq_true] at h1
          exact (disj_spec h1.1.2 (x := b) h0 (List.mem_append_right _ hd)).elim
      rw [e1, e2]
      exact h'
end
end Go.Proofs.YtahmbcgolnplgaaDoorA
