/- Loops of printed functions, whatever the list: a loop that goes through all, one that marks all, one that holds what was marked, one that copies all. No condition but those that each theorem names. -/
import Derived.Test.YtkkglhhkpihmgaaGreatA18
set_option linter.unusedVariables false
namespace Go.Proofs.YtkkglhhkpihmgaaGreatL
open Go.RowKit Go.Proofs.YtkkglhhkpihmgaaGreatA

theorem w64 {x : Int} (h : -9223372036854775808 ≤ x) (h' : x ≤ 9223372036854775807) : wrap64 x = x := by unfold wrap64; omega

section
variable {α β ρ σ : Type}
theorem Ev.const {a : Option α} {r : α} (h : a = some r) : Ev (fun _ => a) r := ⟨0, fun _ _ => h⟩
theorem Ev.bindc {f : Nat → α → Option β} {a : Option α} {x : α} {r : β} (h : a = some x) (k : Ev (fun n => f n x) r) : Ev (fun n => a.bind (f n)) r := Ev.bind (Ev.const h) k
theorem Ev.pos {c : Prop} [Decidable c] {f g : Nat → Option α} {r : α} (h : c) (k : Ev f r) : Ev (fun n => if c then f n else g n) r := Ev.congr (fun n => if_pos h) k
theorem Ev.neg {c : Prop} [Decidable c] {f g : Nat → Option α} {r : α} (h : ¬ c) (k : Ev g r) : Ev (fun n => if c then f n else g n) r := Ev.congr (fun n => if_neg h) k
theorem Ev.both {c : Prop} [Decidable c] {f g : Nat → Option α} {r : α} (h : c → Ev f r) (k : ¬ c → Ev g r) : Ev (fun n => if c then f n else g n) r := by
  by_cases hc : c
  · exact Ev.pos hc (h hc)
  · exact Ev.neg hc (k hc)
theorem Ev.eq {f : Nat → Option α} {a r : α} (h : a = r) (k : Ev f a) : Ev f r := h ▸ k
theorem Ev.some_ {a r : α} (h : a = r) : Ev (fun _ => some a) r := h ▸ Ev.now a
theorem ite_some {α : Type} {p : Prop} [Decidable p] (a b : α) : (if p then some a else some b) = some (if p then a else b) := by split <;> rfl
theorem get_of (l : List α) (z : α) {i : Nat} {x : α} (h : l[i]? = some x) : l.getD i z = x := by simp [List.getD, h]

/-! A loop that goes through a list, with a state; it may end early. -/
def foldE (f : σ → α → Except ρ σ) (fin : σ → ρ) : List α → σ → ρ
  | [], s => fin s
  | x :: r, s => match f s x with
    | .error e => e
    | .ok s' => foldE f fin r s'
theorem foldE_stop {f : σ → α → Except ρ σ} {fin : σ → ρ} {x : α} {s : σ} {e : ρ} (r : List α) (h : f s x = .error e) : foldE f fin (x :: r) s = e := by simp [foldE, h]
theorem foldE_on {f : σ → α → Except ρ σ} {fin : σ → ρ} {x : α} {s s' : σ} (r : List α) (h : f s x = .ok s') : foldE f fin (x :: r) s = foldE f fin r s' := by simp [foldE, h]
theorem foldE_ev (L : Nat → σ → Int → Option ρ) (xs : List α) (f : σ → α → Except ρ σ) (fin : σ → ρ) (Inv : Nat → σ → Prop)
    (stop : ∀ s, Inv xs.length s → Ev (fun k => L k s (xs.length : Int)) (fin s))
    (bad : ∀ (i : Nat) x s e, xs[i]? = some x → Inv i s → f s x = .error e → Ev (fun k => L k s (i : Int)) e)
    (step : ∀ (i : Nat) x s s', xs[i]? = some x → Inv i s → f s x = .ok s' → Inv (i + 1) s' ∧ ∀ r, Ev (fun k => L k s' ((i : Int) + 1)) r → Ev (fun k => L k s (i : Int)) r) :
    ∀ (d i : Nat) (s : σ), xs.length - i = d → i ≤ xs.length → Inv i s → Ev (fun k => L k s (i : Int)) (foldE f fin (xs.drop i) s) := by
  intro d
  induction d with
  | zero =>
    intro i s hd hi hs
    have : i = xs.length := by omega
    subst this
    rw [List.drop_length]
    exact stop s hs
  | succ d ih =>
    intro i s hd hi hs
    have hlt : i < xs.length := by omega
    have hx : xs[i]? = some xs[i] := List.getElem?_eq_getElem hlt
    rw [List.drop_eq_getElem_cons hlt]
    cases hf : f s xs[i] with
    | error e =>
      rw [foldE_stop _ hf]
      exact bad i _ s e hx hs hf
    | ok s' =>
      rw [foldE_on _ hf]
      obtain ⟨h1, h2⟩ := step i _ s s' hx hs hf
      exact h2 _ (by have := ih (i + 1) s' (by omega) (by omega) h1; simpa using this)

/-! Two lists that are alike, held place by place. -/
theorem same_ev (L : Nat → Int → Option Bool) (xs : List α)
    (stop : Ev (fun k => L k (xs.length : Int)) true)
    (step : ∀ (i : Nat) x, xs[i]? = some x → Ev (fun k => L k ((i : Int) + 1)) true → Ev (fun k => L k (i : Int)) true) :
    Ev (fun k => L k 0) true := by
  have key : ∀ (d i : Nat), xs.length - i = d → i ≤ xs.length → Ev (fun k => L k (i : Int)) true := by
    intro d
    induction d with
    | zero =>
      intro i hd hi
      have : i = xs.length := by omega
      subst this
      exact stop
    | succ d ih =>
      intro i hd hi
      have hlt : i < xs.length := by omega
      exact step i _ (List.getElem?_eq_getElem hlt) (by have := ih (i + 1) (by omega) (by omega); simpa using this)
  exact key _ 0 rfl (Nat.zero_le _)

/-! Does each hold? -/
theorem all_ev (L : Nat → Int → Option Bool) (xs : List α) (p : α → Bool)
    (stop : Ev (fun k => L k (xs.length : Int)) true)
    (bad : ∀ (i : Nat) x, xs[i]? = some x → p x = false → Ev (fun k => L k (i : Int)) false)
    (step : ∀ (i : Nat) x r, xs[i]? = some x → p x = true → Ev (fun k => L k ((i : Int) + 1)) r → Ev (fun k => L k (i : Int)) r) :
    Ev (fun k => L k 0) (xs.all p) := by
  have key : ∀ (d i : Nat), xs.length - i = d → i ≤ xs.length → Ev (fun k => L k (i : Int)) ((xs.drop i).all p) := by
    intro d
    induction d with
    | zero =>
      intro i hd hi
      have : i = xs.length := by omega
      subst this
      rw [List.drop_length]
      exact stop
    | succ d ih =>
      intro i hd hi
      have hlt : i < xs.length := by omega
      have hx : xs[i]? = some xs[i] := List.getElem?_eq_getElem hlt
      rw [List.drop_eq_getElem_cons hlt, List.all_cons]
      cases hp : p xs[i] with
      | false => exact bad i _ hx hp
      | true => exact step i _ _ hx hp (by have := ih (i + 1) (by omega) (by omega); simpa using this)
  exact key _ 0 rfl (Nat.zero_le _)

/-! A copy, element by element, into a list of the same length. -/
theorem copy_ev (L : Nat → List β → Int → Option (List β)) (xs : List α) (g : α → β) (z : β)
    (stop : ∀ out, Ev (fun k => L k out (xs.length : Int)) out)
    (step : ∀ (i : Nat) x out r, xs[i]? = some x → out.length = xs.length → Ev (fun k => L k (out.set i (g x)) ((i : Int) + 1)) r → Ev (fun k => L k out (i : Int)) r) :
    Ev (fun k => L k (List.replicate xs.length z) 0) (xs.map g) := by
  have key : ∀ (d i : Nat) (post : List β), xs.length - i = d → i ≤ xs.length → post.length = d → Ev (fun k => L k ((xs.take i).map g ++ post) (i : Int)) (xs.map g) := by
    intro d
    induction d with
    | zero =>
      intro i post hd hi hp
      have : i = xs.length := by omega
      subst this
      obtain rfl : post = [] := List.eq_nil_of_length_eq_zero hp
      simpa using stop (xs.map g)
    | succ d ih =>
      intro i post hd hi hp
      have hlt : i < xs.length := by omega
      have hx : xs[i]? = some xs[i] := List.getElem?_eq_getElem hlt
      obtain ⟨p, post, rfl⟩ : ∃ p q, post = p :: q := by
        cases post with
        | nil => simp at hp
        | cons p q => exact ⟨p, q, rfl⟩
      refine step i _ _ _ hx (by simp at hp ⊢; omega) ?_
      have := ih (i + 1) post (by omega) (by omega) (by simpa using hp)
      have e : ((xs.take i).map g ++ p :: post).set i (g xs[i]) = (xs.take (i + 1)).map g ++ post := by
        rw [List.set_append_right _ _ (by simp; omega)]
        have hl : ((xs.take i).map g).length = i := by simp; omega
        rw [hl, Nat.sub_self, List.set_cons_zero, List.take_succ_eq_append_getElem hlt, List.map_append]
        simp only [List.map_cons, List.map_nil, List.append_assoc, List.cons_append, List.nil_append]
      rw [e]
      simpa using this
  have := key xs.length 0 (List.replicate xs.length z) rfl (Nat.zero_le _) (by simp)
  simpa using this

/-! Marks: each element is marked, one number behind the other; 'me x a' is the element x marked from a on; 'ct x' how many marks it takes. -/
def marks (me : α → Int → α) (ct : α → Nat) : List α → Int → List α
  | [], _ => []
  | x :: r, a => me x a :: marks me ct r (a + ct x)
def mcount (ct : α → Nat) : List α → Nat
  | [] => 0
  | x :: r => ct x + mcount ct r
theorem marks_length (me : α → Int → α) (ct : α → Nat) : ∀ (l : List α) (a : Int), (marks me ct l a).length = l.length
  | [], _ => rfl
  | x :: r, a => by simp [marks, marks_length me ct r]
theorem held_ev (L : Nat → Int → Int → Option Int) (me : α → Int → α) (ct : α → Nat) (B : Int) (xs : List α) (a0 : Int) (ha : 0 ≤ a0) (hB : a0 + mcount ct xs ≤ B)
    (stop : ∀ a, Ev (fun k => L k a (xs.length : Int)) a)
    (step : ∀ (i : Nat) x a r, xs[i]? = some x → (marks me ct xs a0)[i]? = some (me x a) → 0 ≤ a → a + ct x ≤ B → Ev (fun k => L k (a + ct x) ((i : Int) + 1)) r → Ev (fun k => L k a (i : Int)) r) :
    Ev (fun k => L k a0 0) (a0 + mcount ct xs) := by
  have key : ∀ (post pre : List α) (a : Int), xs = pre ++ post → 0 ≤ a → a + mcount ct post ≤ B → (marks me ct xs a0).drop pre.length = marks me ct post a → Ev (fun k => L k a (pre.length : Int)) (a + mcount ct post) := by
    intro post
    induction post with
    | nil =>
      intro pre a hx ha hB _
      have := stop a
      rw [show (pre.length : Int) = (xs.length : Int) by rw [hx]; simp]
      simpa [mcount] using this
    | cons x post ih =>
      intro pre a hx ha hB hd
      have hm : (mcount ct (x :: post) : Int) = ct x + mcount ct post := by simp [mcount]
      have hd' : (marks me ct xs a0).drop pre.length = me x a :: marks me ct post (a + ct x) := hd
      refine step pre.length x a _ (by rw [hx]; simp) ?_ ha (by omega) ?_
      · have := congrArg (fun l => l[0]?) hd'
        simpa using this
      · have := ih (pre ++ [x]) (a + ct x) (by rw [hx]; simp) (by omega) (by omega) (by
          rw [List.length_append, List.length_singleton, ← List.drop_drop, hd']
          simp)
        have e : (a + mcount ct (x :: post) : Int) = a + ct x + mcount ct post := by omega
        rw [e]
        simpa using this
  have := key xs [] a0 (by simp) ha hB (by simp)
  simpa using this
end
end Go.Proofs.YtkkglhhkpihmgaaGreatL
