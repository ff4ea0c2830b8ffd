import Derived.Test.YtahmbcgolnplgaaGreatA9
set_option linter.unusedVariables false
namespace Go.Proofs.YtahmbcgolnplgaaGreatL
open Go.RowKit Go.Proofs.YtahmbcgolnplgaaGreatA
theorem m7 {x : Int} (h : -9223372036854775808≤x) (h' : x≤9223372036854775807) : wrap64 x = x:=by unfold wrap64;omega
section
variable {α β ρ σ : Type}
theorem Ev.const {a : Option α} {r : α} (h : a = some r) : Ev (fun _=>a) r:=⟨0,fun _ _=>h⟩
theorem Ev.bindc {f : Nat→α→Option β} {a : Option α} {x : α} {r : β} (h : a = some x) (k : Ev (fun n=>f n x) r) : Ev (fun n=>a.bind (f n)) r:=Ev.bind (Ev.const h) k
theorem Ev.pos {c : Prop} [Decidable c] {f g : Nat→Option α} {r : α} (h : c) (k : Ev f r) : Ev (fun n=>if c then f n else g n) r:=Ev.congr (fun n=>if_pos h) k
theorem Ev.neg {c : Prop} [Decidable c] {f g : Nat→Option α} {r : α} (h : ¬ c) (k : Ev g r) : Ev (fun n=>if c then f n else g n) r:=Ev.congr (fun n=>if_neg h) k
theorem Ev.both {c : Prop} [Decidable c] {f g : Nat→Option α} {r : α} (h : c→Ev f r) (k : ¬ c→Ev g r) : Ev (fun n=>if c then f n else g n) r:=by
 by_cases hc : c
 ·exact Ev.pos hc (h hc)
 ·exact Ev.neg hc (k hc)
theorem Ev.eq {f : Nat→Option α} {a r : α} (h : a = r) (k : Ev f a) : Ev f r:=h▸k
theorem Ev.some_ {a r : α} (h : a = r) : Ev (fun _=>some a) r:=h▸Ev.now a
theorem aE3 {α : Type} {p : Prop} [Decidable p] (a b : α) : (if p then some a else some b) = some (if p then a else b):=by split <;> rfl
theorem J8 (l : List α) (z : α) {i : Nat} {x : α} (h : l[i]? = some x) : l.getD i z = x:=by simp [List.getD,h]
def ab7 (f : σ→α→Except ρ σ) (fin : σ→ρ) : List α→σ→ρ
 | [],s=>fin s
 | x :: r,s=>match f s x with
  | .error e=>e
  | .ok s'=>ab7 f fin r s'
theorem by9 {f : σ→α→Except ρ σ} {fin : σ→ρ} {x : α} {s : σ} {e : ρ} (r : List α) (h : f s x = .error e) : ab7 f fin (x :: r) s = e:=by simp [ab7,h]
theorem ao3 {f : σ→α→Except ρ σ} {fin : σ→ρ} {x : α} {s s' : σ} (r : List α) (h : f s x = .ok s') : ab7 f fin (x :: r) s = ab7 f fin r s':=by simp [ab7,h]
theorem aE7 (L : Nat→σ→Int→Option ρ) (xs : List α) (f : σ→α→Except ρ σ) (fin : σ→ρ) (Inv : Nat→σ→Prop)
 (stop : ∀ s,Inv xs.length s→Ev (fun k=>L k s (xs.length : Int)) (fin s))
 (bad : ∀ (i : Nat) x s e,xs[i]? = some x→Inv i s→f s x = .error e→Ev (fun k=>L k s (i : Int)) e)
 (step : ∀ (i : Nat) x s s',xs[i]? = some x→Inv i s→f s x = .ok s'→Inv (i + 1) s'∧∀ r,Ev (fun k=>L k s' ((i : Int) + 1)) r→Ev (fun k=>L k s (i : Int)) r) :
 ∀ (d i : Nat) (s : σ),xs.length - i = d→i≤xs.length→Inv i s→Ev (fun k=>L k s (i : Int)) (ab7 f fin (xs.drop i) s):=by
 intro d
 induction d with
 | zero=>
  intro i s hd hi hs
  have : i = xs.length:=by omega
  subst this
  rw [List.drop_length]
  exact stop s hs
 | succ d ih=>
  intro i s hd hi hs
  have hlt : i < xs.length:=by omega
  have hx : xs[i]? = some xs[i]:=List.getElem?_eq_getElem hlt
  rw [List.drop_eq_getElem_cons hlt]
  cases hf : f s xs[i] with
  | error e=>
   rw [by9 _ hf]
   exact bad i _ s e hx hs hf
  | ok s'=>
   rw [ao3 _ hf]
   obtain ⟨h1,h2⟩:=step i _ s s' hx hs hf
   exact h2 _ (by have:=ih (i + 1) s' (by omega) (by omega) h1;simpa using this)
theorem bW4 (L : Nat→Int→Option Bool) (xs : List α) (p : α→Bool)
 (stop : Ev (fun k=>L k (xs.length : Int)) true)
 (bad : ∀ (i : Nat) x,xs[i]? = some x→p x = false→Ev (fun k=>L k (i : Int)) false)
 (step : ∀ (i : Nat) x r,xs[i]? = some x→p x = true→Ev (fun k=>L k ((i : Int) + 1)) r→Ev (fun k=>L k (i : Int)) r) :
 Ev (fun k=>L k 0) (xs.all p):=by
 have key : ∀ (d i : Nat),xs.length - i = d→i≤xs.length→Ev (fun k=>L k (i : Int)) ((xs.drop i).all p):=by
  intro d
  induction d with
  | zero=>
   intro i hd hi
   have : i = xs.length:=by omega
   subst this
   rw [List.drop_length]
   exact stop
  | succ d ih=>
   intro i hd hi
   have hlt : i < xs.length:=by omega
   have hx : xs[i]? = some xs[i]:=List.getElem?_eq_getElem hlt
   rw [List.drop_eq_getElem_cons hlt,List.all_cons]
   cases hp : p xs[i] with
   | false=>exact bad i _ hx hp
   | true=>exact step i _ _ hx hp (by have:=ih (i + 1) (by omega) (by omega);simpa using this)
 exact key _ 0 rfl (Nat.zero_le _)
def T8 (p : Nat→α→Bool) : Nat→List α→Bool
 | _,[]=>true
 | i,x :: r=>p i x && T8 p (i + 1) r
theorem aL9 (L : Nat→Int→Option Bool) (xs : List α) (p : Nat→α→Bool) (z : Bool)
 (stop : Ev (fun k=>L k (xs.length : Int)) z)
 (bad : ∀ (i : Nat) x,xs[i]? = some x→p i x = false→Ev (fun k=>L k (i : Int)) false)
 (step : ∀ (i : Nat) x r,xs[i]? = some x→p i x = true→Ev (fun k=>L k ((i : Int) + 1)) r→Ev (fun k=>L k (i : Int)) r) :
 Ev (fun k=>L k 0) (T8 p 0 xs && z):=by
 have key : ∀ (d i : Nat),xs.length - i = d→i≤xs.length→Ev (fun k=>L k (i : Int)) (T8 p i (xs.drop i) && z):=by
  intro d
  induction d with
  | zero=>
   intro i hd hi
   have : i = xs.length:=by omega
   subst this
   rw [List.drop_length]
   simpa [T8] using stop
  | succ d ih=>
   intro i hd hi
   have hlt : i < xs.length:=by omega
   have hx : xs[i]? = some xs[i]:=List.getElem?_eq_getElem hlt
   rw [List.drop_eq_getElem_cons hlt]
   simp only [T8]
   cases hp : p i xs[i] with
   | false=>simpa using bad i _ hx hp
   | true=>exact step i _ _ hx hp (by have:=ih (i + 1) (by omega) (by omega);simpa using this)
 exact key _ 0 rfl (Nat.zero_le _)
theorem aV6 {p q : Nat→α→Bool} : ∀ (xs : List α) (i : Nat),(∀ j x,xs[j]? = some x→p (i + j) x = q (i + j) x)→T8 p i xs = T8 q i xs
 | [],_,_=>rfl
 | x :: r,i,h=>by
  have h0 : p i x = q i x:=h 0 x rfl
  have h1 : T8 p (i + 1) r = T8 q (i + 1) r:=by
   refine aV6 r (i + 1) fun j y hj=>?_
   have:=h (j + 1) y (by simpa using hj)
   rw [show i + 1 + j = i + (j + 1) by omega];exact this
  simp only [T8]
  rw [h0,h1]
theorem aI4 {p : Nat→α→Bool} : ∀ (xs : List α) (i : Nat),T8 p i xs = true→∀ j x,xs[j]? = some x→p (i + j) x = true
 | [],_,_,j,x,hx=>by simp at hx
 | y :: r,i,h,j,x,hx=>by
  simp only [T8,Bool.and_eq_true] at h
  cases j with
  | zero=>simp at hx;subst hx;exact h.1
  | succ j=>have:=aI4 r (i + 1) h.2 j x (by simpa using hx);rw [show i + (j + 1) = i + 1 + j by omega];exact this
end
end Go.Proofs.YtahmbcgolnplgaaGreatL
