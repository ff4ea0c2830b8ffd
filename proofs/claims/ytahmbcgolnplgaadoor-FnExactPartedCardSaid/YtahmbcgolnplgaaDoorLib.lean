/- Loops of printed functions, whatever the list: a loop that goes through all, one that marks all, one that holds what was marked, one that copies all. No condition but those that each theorem names. -/
import Derived.Test.YtahmbcgolnplgaaDoorA18
set_option linter.unusedVariables false
namespace Go.Proofs.YtahmbcgolnplgaaDoorL
open Go.RowKit Go.Proofs.YtahmbcgolnplgaaDoorA

theorem w64 {x : Int} (h : -9223372036854775808 ≤ x) (h' : x ≤ 9223372036854775807) : wrap64 x = x := by unfold wrap64; omega

section
variable {α β ρ σ : Type}
theorem Ev.const {a : Option α} {r : α} (h : a = some r) : Ev (fun _ => a) r := ⟨0, fun _ _ => h⟩
theorem Ev.bindc {f : Nat → α → Option β} {a : Option α} {x : α} {r : β} (h : a = some x) (k : Ev (fun n => f n x) r) : Ev (fun n => a.bind (f n)) r := Ev.bind (Ev.const h) k
theorem Ev.pos {c : Prop} [Decidable c] {f g : Nat → Option α} {r : α} (h : c) (k : Ev f r) : Ev (fun n => if c then f n else g n) r := Ev.congr (fun n => if_pos h) k
theorem Ev.neg {c : Prop} [Decidable c] {f g : Nat → Option α} {r : α} (h : ¬ c) (k : Ev g r) : Ev (fun n => if c then f n else g n) r := Ev.congr (fun n => if_neg h) k
theorem Ev.both {c : Prop} [Decidable c] {f g : Nat → Option α} {r : α} (h : c → Ev f r) (k : ¬ c → Ev g r) : Ev (fun n => if c then f n else g n) r := by
  by_cases hc : c
  · exact Ev.pos hc (h hc)
  · exact Ev.neg hc (k hc)
theorem Ev.eq {f : Nat → Option α} {a r : α} (h : a = r) (k : Ev f a) : Ev f r := h ▸ k
theorem Ev.some_ {a r : α} (h : a = r) : Ev (fun _ => some a) r := h ▸ Ev.now a
theorem Ev.uniq {f : Nat → Option α} {a b : α} (h : Ev f a) (k : Ev f b) : a = b := by
  obtain ⟨K, h⟩ := h
  obtain ⟨K', k⟩ := k
  exact Option.some.inj ((h (max K K') (by omega)).symm.trans (k (max K K') (by omega)))

theorem ite_some {α : Type} {p : Prop} [Decidable p] (a b : α) : (if p then some a else some b) = some (if p then a else b) := by split <;> rfl
theorem get_of (l : List α) (z : α) {i : Nat} {x : α} (h : l[i]? = some x) : l.getD i z = x := by simp [List.getD, h]

/-! A loop that goes through a list, with a state; it may end early. -/
def foldE (f : σ → α → Except ρ σ) (fin : σ → ρ) : List α → σ → ρ
  | [], s => fin s
  | x :: r, s => match f s x with
    | .error e => e
    | .ok s' => foldE f fin r s'
theorem foldE_nil (f : σ → α → Except ρ σ) (fin : σ → ρ) (s : σ) : foldE f fin [] s = fin s := rfl
theorem foldE_stop {f : σ → α → Except ρ σ} {fin : σ → ρ} {x : α} {s : σ} {e : ρ} (r : List α) (h : f s x = .error e) : foldE f fin (x :: r) s = e := by simp [foldE, h]
theorem foldE_on {f : σ → α → Except ρ σ} {fin : σ → ρ} {x : α} {s s' : σ} (r : List α) (h : f s x = .ok s') : foldE f fin (x :: r) s = foldE f fin r s' := by simp [foldE, h]
theorem foldE_ev (L : Nat → σ → Int → Option ρ) (xs : List α) (f : σ → α → Except ρ σ) (fin : σ → ρ) (Inv : Nat → σ → Prop)
    (stop : ∀ s, Inv xs.length s → Ev (fun k => L k s (xs.length : Int)) (fin s))
    (bad : ∀ (i : Nat) x s e, xs[i]? = some x → Inv i s → f s x = .error e → Ev (fun k => L k s (i : Int)) e)
    (step : ∀ (i : Nat) x s s', xs[i]? = some x → Inv i s → f s x = .ok s' → Inv (i + 1) s' ∧ ∀ r, Ev (fun k => L k s' ((i : Int) + 1)) r → Ev (fun k => L k s (i : Int)) r) :
    ∀ (d i : Nat) (s : σ), xs.length - i = d → i ≤ xs.length → Inv i s → Ev (fun k => L k s (i : Int)) (foldE f fin (xs.drop i) s) := by
  intro d
  induction d with
  | zero =>
    intro i s hd hi hs
    have : i = xs.length := by omega
    subst this
    rw [List.drop_length]
    exact stop s hs
  | succ d ih =>
    intro i s hd hi hs
    have hlt : i < xs.length := by omega
    have hx : xs[i]? = some xs[i] := List.getElem?_eq_getElem hlt
    rw [List.drop_eq_getElem_cons hlt]
    cases hf : f s xs[i] with
    | error e =>
      rw [foldE_stop _ hf]
      exact bad i _ s e hx hs hf
    | ok s' =>
      rw [foldE_on _ hf]
      obtain ⟨h1, h2⟩ := step i _ s s' hx hs hf
      exact h2 _ (by have := ih (i + 1) s' (by omega) (by omega) h1; simpa using this)

/-! Two lists that are alike, held place by place. -/
theorem same_ev (L : Nat → Int → Option Bool) (xs : List α)
    (stop : Ev (fun k => L k (xs.length : Int)) true)
    (step : ∀ (i : Nat) x, xs[i]? = some x → Ev (fun k => L k ((i : Int) + 1)) true → Ev (fun k => L k (i : Int)) true) :
    Ev (fun k => L k 0) true := by
  have key : ∀ (d i : Nat), xs.length - i = d → i ≤ xs.length → Ev (fun k => L k (i : Int)) true := by
    intro d
    induction d with
    | zero =>
      intro i hd hi
      have : i = xs.length := by omega
      subst this
      exact stop
    | succ d ih =>
      intro i hd hi
      have hlt : i < xs.length := by omega
      exact step i _ (List.getElem?_eq_getElem hlt) (by have := ih (i + 1) (by omega) (by omega); simpa using this)
  exact key _ 0 rfl (Nat.zero_le _)

/-! Does each hold? -/
theorem all_ev (L : Nat → Int → Option Bool) (xs : List α) (p : α → Bool)
    (stop : Ev (fun k => L k (xs.length : Int)) true)
    (bad : ∀ (i : Nat) x, xs[i]? = some x → p x = false → Ev (fun k => L k (i : Int)) false)
    (step : ∀ (i : Nat) x r, xs[i]? = some x → p x = true → Ev (fun k => L k ((i : Int) + 1)) r → Ev (fun k => L k (i : Int)) r) :
    Ev (fun k => L k 0) (xs.all p) := by
  have key : ∀ (d i : Nat), xs.length - i = d → i ≤ xs.length → Ev (fun k => L k (i : Int)) ((xs.drop i).all p) := by
    intro d
    induction d with
    | zero =>
      intro i hd hi
      have : i = xs.length := by omega
      subst this
      rw [List.drop_length]
      exact stop
    | succ d ih =>
      intro i hd hi
      have hlt : i < xs.length := by omega
      have hx : xs[i]? = some xs[i] := List.getElem?_eq_getElem hlt
      rw [List.drop_eq_getElem_cons hlt, List.all_cons]
      cases hp : p xs[i] with
      | false => exact bad i _ hx hp
      | true => exact step i _ _ hx hp (by have := ih (i + 1) (by omega) (by omega); simpa using this)
  exact key _ 0 rfl (Nat.zero_le _)

/-! Does each hold, at its place? And then z. -/
def allI (p : Nat → α → Bool) : Nat → List α → Bool
  | _, [] => true
  | i, x :: r => p i x && allI p (i + 1) r
theorem allI_ev (L : Nat → Int → Option Bool) (xs : List α) (p : Nat → α → Bool) (z : Bool)
    (stop : Ev (fun k => L k (xs.length : Int)) z)
    (bad : ∀ (i : Nat) x, xs[i]? = some x → p i x = false → Ev (fun k => L k (i : Int)) false)
    (step : ∀ (i : Nat) x r, xs[i]? = some x → p i x = true → Ev (fun k => L k ((i : Int) + 1)) r → Ev (fun k => L k (i : Int)) r) :
    Ev (fun k => L k 0) (allI p 0 xs && z) := by
  have key : ∀ (d i : Nat), xs.length - i = d → i ≤ xs.length → Ev (fun k => L k (i : Int)) (allI p i (xs.drop i) && z) := by
    intro d
    induction d with
    | zero =>
      intro i hd hi
      have : i = xs.length := by omega
      subst this
      rw [List.drop_length]
      simpa [allI] using stop
    | succ d ih =>
      intro i hd hi
      have hlt : i < xs.length := by omega
      have hx : xs[i]? = some xs[i] := List.getElem?_eq_getElem hlt
      rw [List.drop_eq_getElem_cons hlt]
      simp only [allI]
      cases hp : p i xs[i] with
      | false => simpa using bad i _ hx hp
      | true => exact step i _ _ hx hp (by have := ih (i + 1) (by omega) (by omega); simpa using this)
  exact key _ 0 rfl (Nat.zero_le _)
theorem allI_congr {p q : Nat → α → Bool} : ∀ (xs : List α) (i : Nat), (∀ j x, xs[j]? = some x → p (i + j) x = q (i + j) x) → allI p i xs = allI q i xs
  | [], _, _ => rfl
  | x :: r, i, h => by
    have h0 : p i x = q i x := h 0 x rfl
    have h1 : allI p (i + 1) r = allI q (i + 1) r := by
      refine allI_congr r (i + 1) fun j y hj => ?_
      have := h (j + 1) y (by simpa using hj)
      rw [show i + 1 + j = i + (j + 1) by omega]; exact this
    simp only [allI]
    rw [h0, h1]
theorem allI_true {p : Nat → α → Bool} : ∀ (xs : List α) (i : Nat), allI p i xs = true → ∀ j x, xs[j]? = some x → p (i + j) x = true
  | [], _, _, j, x, hx => by simp at hx
  | y :: r, i, h, j, x, hx => by
    simp only [allI, Bool.and_eq_true] at h
    cases j with
    | zero => simp at hx; subst hx; exact h.1
    | succ j => have := allI_true r (i + 1) h.2 j x (by simpa using hx); rw [show i + (j + 1) = i + 1 + j by omega]; exact this

/-! A copy, element by element, into a list of the same length. -/
theorem copy_ev (L : Nat → List β → Int → Option (List β)) (xs : List α) (g : α → β) (z : β)
    (stop : ∀ out, Ev (fun k => L k out (xs.length : Int)) out)
    (step : ∀ (i : Nat) x out r, xs[i]? = some x → out.length = xs.length → Ev (fun k => L k (out.set i (g x)) ((i : Int) + 1)) r → Ev (fun k => L k out (i : Int)) r) :
    Ev (fun k => L k (List.replicate xs.length z) 0) (xs.map g) := by
  have key : ∀ (d i : Nat) (post : List β), xs.length - i = d → i ≤ xs.length → post.length = d → Ev (fun k => L k ((xs.take i).map g ++ post) (i : Int)) (xs.map g) := by
    intro d
    induction d with
    | zero =>
      intro i post hd hi hp
      have : i = xs.length := by omega
      subst this
      obtain rfl : post = [] := List.eq_nil_of_length_eq_zero hp
      simpa using stop (xs.map g)
    | succ d ih =>
      intro i post hd hi hp
      have hlt : i < xs.length := by omega
      have hx : xs[i]? = some xs[i] := List.getElem?_eq_getElem hlt
      obtain ⟨p, post, rfl⟩ : ∃ p q, post = p :: q := by
        cases post with
        | nil => simp at hp
        | cons p q => exact ⟨p, q, rfl⟩
      refine step i _ _ _ hx (by simp at hp ⊢; omega) ?_
      have := ih (i + 1) post (by omega) (by omega) (by simpa using hp)
      have e : ((xs.take i).map g ++ p :: post).set i (g xs[i]) = (xs.take (i + 1)).map g ++ post := by
        rw [List.set_append_right _ _ (by simp; omega)]
        have hl : ((xs.take i).map g).length = i := by simp; omega
        rw [hl, Nat.sub_self, List.set_cons_zero, List.take_succ_eq_append_getElem hlt, List.map_append]
        simp only [List.map_cons, List.map_nil, List.append_assoc, List.cons_append, List.nil_append]
      rw [e]
      simpa using this
  have := key xs.length 0 (List.replicate xs.length z) rfl (Nat.zero_le _) (by simp)
  simpa using this

/-! Marks: each element is marked, one number behind the other; 'me x a' is the element x marked from a on; 'ct x' how many marks it takes. -/
def marks (me : α → Int → α) (ct : α → Nat) : List α → Int → List α
  | [], _ => []
  | x :: r, a => me x a :: marks me ct r (a + ct x)
def mcount (ct : α → Nat) : List α → Nat
  | [] => 0
  | x :: r => ct x + mcount ct r
theorem marks_length (me : α → Int → α) (ct : α → Nat) : ∀ (l : List α) (a : Int), (marks me ct l a).length = l.length
  | [], _ => rfl
  | x :: r, a => by simp [marks, marks_length me ct r]
theorem mcount_const (ct : α → Nat) (c : Nat) (h : ∀ x, ct x = c) : ∀ l : List α, mcount ct l = c * l.length
  | [] => rfl
  | x :: r => by simp [mcount, mcount_const ct c h r, h, Nat.mul_add, Nat.add_comm]
theorem mcount_append (ct : α → Nat) : ∀ l m : List α, mcount ct (l ++ m) = mcount ct l + mcount ct m
  | [], m => by simp [mcount]
  | x :: r, m => by simp [mcount, mcount_append ct r m, Nat.add_assoc]
theorem mark_ev (L : Nat → List α → Int → Int → Option (Int × List α)) (me : α → Int → α) (ct : α → Nat) (n0 : Nat) (B : Int)
    (stop : ∀ xs a, xs.length = n0 → Ev (fun k => L k xs a (n0 : Int)) (a, xs))
    (step : ∀ (i : Nat) x xs a r, xs.length = n0 → xs[i]? = some x → 0 ≤ a → a + ct x ≤ B → Ev (fun k => L k (xs.set i (me x a)) (a + ct x) ((i : Int) + 1)) r → Ev (fun k => L k xs a (i : Int)) r) :
    ∀ (post pre : List α) (a : Int), (pre ++ post).length = n0 → 0 ≤ a → a + mcount ct post ≤ B → Ev (fun k => L k (pre ++ post) a (pre.length : Int)) (a + mcount ct post, pre ++ marks me ct post a) := by
  intro post
  induction post with
  | nil =>
    intro pre a hn ha hB
    have := stop (pre ++ []) a hn
    rw [show (pre.length : Int) = (n0 : Int) by rw [← hn]; simp]
    simpa [mcount, marks] using this
  | cons x post ih =>
    intro pre a hn ha hB
    have hm : (mcount ct (x :: post) : Int) = ct x + mcount ct post := by simp [mcount]
    refine step pre.length x _ a _ hn (by simp) ha (by omega) ?_
    have e : (pre ++ x :: post).set pre.length (me x a) = (pre ++ [me x a]) ++ post := by
      rw [List.set_append_right _ _ (Nat.le_refl _)]
      simp
    rw [e]
    have := ih (pre ++ [me x a]) (a + ct x) (by simp at hn ⊢; omega) (by omega) (by omega)
    simp only [List.length_append, List.length_cons, List.length_nil, List.append_assoc, List.cons_append, List.nil_append, Int.natCast_add, Int.natCast_one, Nat.zero_add] at this
    have h2 : (a + mcount ct (x :: post), pre ++ marks me ct (x :: post) a) = (a + ↑(ct x) + ↑(mcount ct post), pre ++ me x a :: marks me ct post (a + ↑(ct x))) := by
      simp [hm, marks]; omega
    rw [h2]
    simpa using this
theorem marked_ev (L : Nat → List α → Int → Int → Option (Int × List α)) (me : α → Int → α) (ct : α → Nat) (B : Int) (xs : List α) (a : Int) (ha : 0 ≤ a) (hB : a + mcount ct xs ≤ B)
    (stop : ∀ ys a, ys.length = xs.length → Ev (fun k => L k ys a (xs.length : Int)) (a, ys))
    (step : ∀ (i : Nat) x ys a r, ys.length = xs.length → ys[i]? = some x → 0 ≤ a → a + ct x ≤ B → Ev (fun k => L k (ys.set i (me x a)) (a + ct x) ((i : Int) + 1)) r → Ev (fun k => L k ys a (i : Int)) r) :
    Ev (fun k => L k xs a 0) (a + mcount ct xs, marks me ct xs a) := by
  have := mark_ev L me ct xs.length B stop step xs [] a (by simp) ha hB
  simpa using this
theorem held_ev (L : Nat → Int → Int → Option Int) (me : α → Int → α) (ct : α → Nat) (B : Int) (xs : List α) (a0 : Int) (ha : 0 ≤ a0) (hB : a0 + mcount ct xs ≤ B)
    (stop : ∀ a, Ev (fun k => L k a (xs.length : Int)) a)
    (step : ∀ (i : Nat) x a r, xs[i]? = some x → (marks me ct xs a0)[i]? = some (me x a) → 0 ≤ a → a + ct x ≤ B → Ev (fun k => L k (a + ct x) ((i : Int) + 1)) r → Ev (fun k => L k a (i : Int)) r) :
    Ev (fun k => L k a0 0) (a0 + mcount ct xs) := by
  have key : ∀ (post pre : List α) (a : Int), xs = pre ++ post → 0 ≤ a → a + mcount ct post ≤ B → (marks me ct xs a0).drop pre.length = marks me ct post a → Ev (fun k => L k a (pre.length : Int)) (a + mcount ct post) := by
    intro post
    induction post with
    | nil =>
      intro pre a hx ha hB _
      have := stop a
      rw [show (pre.length : Int) = (xs.length : Int) by rw [hx]; simp]
      simpa [mcount] using this
    | cons x post ih =>
      intro pre a hx ha hB hd
      have hm : (mcount ct (x :: post) : Int) = ct x + mcount ct post := by simp [mcount]
      have hd' : (marks me ct xs a0).drop pre.length = me x a :: marks me ct post (a + ct x) := hd
      refine step pre.length x a _ (by rw [hx]; simp) ?_ ha (by omega) ?_
      · have := congrArg (fun l => l[0]?) hd'
        simpa using this
      · have := ih (pre ++ [x]) (a + ct x) (by rw [hx]; simp) (by omega) (by omega) (by
          rw [List.length_append, List.length_singleton, ← List.drop_drop, hd']
          simp)
        have e : (a + mcount ct (x :: post) : Int) = a + ct x + mcount ct post := by omega
        rw [e]
        simpa using this
  have := key xs [] a0 (by simp) ha hB (by simp)
  simpa using this
end
end Go.Proofs.YtahmbcgolnplgaaDoorL
