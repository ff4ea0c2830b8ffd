import Derived.Orders
import Derived.Tactics
import Derived.KernelRfl
import Derived.Laws.AppendOwn
import Derived.Laws.Slices
import Derived.Laws.Entries
import Derived.Laws.Cells
set_option linter.unusedVariables false
set_option linter.unusedSimpArgs false
namespace Go.Proofs.YtahmbcgolnplgaaGreatA
open Go
def X3 : TypeId:=5
def as4 (w : World) (g : Nat) (cur : Array Value) (e : TypeId) : Prop:=∃ fz : Nat×Nat,w.heap[g]? = some (.cells cur e fz)∧(fz = (0,0)∨cur.size≤fz.1∧e = X3)
def S8 (w : World) (base : Nat) (e : TypeId) (size : Nat) (v : Value) (n : Nat) (xs : List Value) : Prop:=xs.length = n * size∧((v = .slice none 0 0∧n = 0)∨∃ g cap cur,v = .slice (some ⟨g,0,none⟩) n cap∧base≤g∧as4 w g cur e∧n≤cap∧cap≤maxLen∧cur.size = cap * size∧cur.toList.take (n * size) = xs)
section
variable {w : World} {base : Nat} {e : TypeId} {size : Nat} {v : Value} {n : Nat} {xs : List Value}
theorem as4.lt {g : Nat} {cur : Array Value} (h : as4 w g cur e) : g < w.heap.size:=h.elim fun _ h=>(Array.getElem?_eq_some_iff.1 h.1).1
theorem as4.kept {w' : World} {g : Nat} {cur : Array Value} (h : as4 w g cur e) (hk : w'.heap[g]? = w.heap[g]?) : as4 w' g cur e:=h.elim fun fz h=>⟨fz,hk.trans h.1,h.2⟩
theorem S8.of (h : w.ownsRow base e size v n xs) : S8 w base e size v n xs:=by
 refine ⟨h.1,?_⟩
 rcases h.2 with h | ⟨g,cap,cur,hv,hb,hg,rest⟩
 ·exact .inl h
 ·exact .inr ⟨g,cap,cur,hv,hb,⟨(0,0),hg,.inl rfl⟩,rest⟩
theorem az4 (w : World) (base : Nat) (e : TypeId) (size : Nat) : S8 w base e size (.slice none 0 0) 0 []:=⟨by simp,.inl ⟨rfl,rfl⟩⟩
theorem S8.lt (h : S8 w base e size v n xs) : ∀ k,v.ownBlock = some k→base≤k∧k < w.heap.size:=by
 intro k hk
 rcases h.2 with ⟨rfl,_⟩ | ⟨g,cap,cur,rfl,hb,hg,_⟩
 ·simp [Value.ownBlock] at hk
 ·simp [Value.ownBlock] at hk
  subst hk
  exact ⟨hb,hg.lt⟩
theorem S8.cells (h : S8 w base e size v n xs) {g : Nat} (hg : v.ownBlock = some g) : ∀ j u,xs[j]? = some u→w.cell? ((⟨g,0,none⟩ : Addr).add j) = some u:=by
 intro j u hu
 rcases h.2 with ⟨rfl,_⟩ | ⟨g',cap,cur,rfl,_,⟨fz,hgg,_⟩,_,_,_,htake⟩
 ·simp [Value.ownBlock] at hg
 ·simp [Value.ownBlock] at hg
  subst hg
  have hadd : (⟨g',0,none⟩ : Addr).add j = ⟨g',j,none⟩:=by unfold Addr.add;split <;> simp_all
  rw [hadd,cell_of_row w g' j cur e fz hgg]
  rw [← htake,List.getElem?_take] at hu
  split at hu
  ·simpa using hu
  ·cases hu
end
def Fa {α β : Type} (R : α→β→Prop) (l : List α) (m : List β) : Prop:=l.length = m.length∧∀ (i : Nat) (a : α) (b : β),l[i]? = some a→m[i]? = some b→R a b
theorem Fa.imp {α β : Type} {R S : α→β→Prop} {l : List α} {m : List β} (h : Fa R l m) (f : ∀ a b,R a b→S a b) : Fa S l m:=⟨h.1,fun i a b ha hb=>f a b (h.2 i a b ha hb)⟩
theorem Fa.get {α β : Type} {R : α→β→Prop} {l : List α} {m : List β} (h : Fa R l m) {i : Nat} {a : α} (ha : l[i]? = some a) : ∃ b,m[i]? = some b∧R a b:=by
 have hi : i < m.length:=by rw [← h.1];exact (List.getElem?_eq_some_iff.1 ha).1
 exact ⟨m[i],List.getElem?_eq_getElem hi,h.2 i a _ ha (List.getElem?_eq_getElem hi)⟩
theorem Fa.get' {α β : Type} {R : α→β→Prop} {l : List α} {m : List β} (h : Fa R l m) {i : Nat} {b : β} (hb : m[i]? = some b) : ∃ a,l[i]? = some a∧R a b:=by
 have hi : i < l.length:=by rw [h.1];exact (List.getElem?_eq_some_iff.1 hb).1
 exact ⟨l[i],List.getElem?_eq_getElem hi,h.2 i _ b (List.getElem?_eq_getElem hi) hb⟩
theorem Fa.nil {α β : Type} {R : α→β→Prop} : Fa R [] []:=⟨rfl,fun i a b h=>by simp at h⟩
theorem Fa.cons {α β : Type} {R : α→β→Prop} {a : α} {b : β} {l : List α} {m : List β} (h : R a b) (t : Fa R l m) : Fa R (a :: l) (b :: m):=by
 refine ⟨by simp [t.1],fun i x y hx hy=>?_⟩
 cases i with
 | zero=>simp at hx hy;subst hx;subst hy;exact h
 | succ i=>exact t.2 i x y (by simpa using hx) (by simpa using hy)
theorem Fa.uncons {α β : Type} {R : α→β→Prop} {a : α} {l : List α} {m : List β} (h : Fa R (a :: l) m) : ∃ b m',m = b :: m'∧R a b∧Fa R l m':=by
 cases m with
 | nil=>exact absurd h.1 (by simp)
 | cons b m'=>exact ⟨b,m',rfl,h.2 0 a b rfl rfl,by simpa using h.1,fun i x y hx hy=>h.2 (i + 1) x y (by simpa using hx) (by simpa using hy)⟩
theorem Fa.unnil {α β : Type} {R : α→β→Prop} {m : List β} (h : Fa R [] m) : m = []:=List.eq_nil_of_length_eq_zero h.1.symm
theorem Fa.set {α β : Type} {R : α→β→Prop} {l : List α} {m : List β} (h : Fa R l m) (i : Nat) {a : α} {b : β} (hab : R a b) : Fa R (l.set i a) (m.set i b):=by
 refine ⟨by simp [h.1],fun j x y hx hy=>?_⟩
 rw [List.getElem?_set] at hx hy
 by_cases e : i = j
 ·subst e
  rw [if_pos rfl] at hx hy
  split at hx
  ·split at hy
   ·injection hx with hx;injection hy with hy;subst hx;subst hy;exact hab
   ·cases hy
  ·cases hx
 ·rw [if_neg e] at hx hy
  exact h.2 j x y hx hy
theorem Fa.append {α β : Type} {R : α→β→Prop} {l l' : List α} {m m' : List β} (h : Fa R l m) (h' : Fa R l' m') : Fa R (l ++ l') (m ++ m'):=by
 refine ⟨by simp [h.1,h'.1],fun i a b ha hb=>?_⟩
 rcases Nat.lt_or_ge i l.length with hi | hi
 ·rw [List.getElem?_append_left hi] at ha
  rw [List.getElem?_append_left (by rw [← h.1];exact hi)] at hb
  exact h.2 i a b ha hb
 ·rw [List.getElem?_append_right hi] at ha
  rw [List.getElem?_append_right (by rw [← h.1];exact hi),← h.1] at hb
  exact h'.2 _ a b ha hb
theorem Fa.take {α β : Type} {R : α→β→Prop} {l : List α} {m : List β} (h : Fa R l m) (n : Nat) : Fa R (l.take n) (m.take n):=by
 refine ⟨by simp [h.1],fun i a b ha hb=>?_⟩
 rw [List.getElem?_take] at ha hb
 split at ha
 ·rename_i hi;rw [if_pos hi] at hb;exact h.2 i a b ha hb
 ·cases ha
theorem Fa.drop {α β : Type} {R : α→β→Prop} {l : List α} {m : List β} (h : Fa R l m) (n : Nat) : Fa R (l.drop n) (m.drop n):=by
 refine ⟨by simp [h.1],fun i a b ha hb=>?_⟩
 rw [List.getElem?_drop] at ha hb
 exact h.2 _ a b ha hb
inductive Fl where
 | o | n | u
 deriving DecidableEq,Inhabited
inductive AV where
 | junk
 | lit (v : Value)
 | agg (l : List AV)
 | tup (l : List AV)
 | box (b o : Nat)
 | row (b : Nat)
 | sub (b sz lo n : Nat)
 | elp (b sz i j : Nat)
 | sl (z : Fl) (sz : Nat) (xs : List AV)
 | rp (z : Fl) (x : AV) (j : Nat)
 | fn (f : Nat) (caps : List AV)
 deriving Inhabited
def AV.leaves : AV→List AV
 | .agg l=>l
 | v=>[v]
inductive Ds where
 | v
 | own (e : Nat) (ds : List Ds)
 deriving Inhabited
inductive l9 where
 | fresh
 | gone
 | box (t : TypeId) (cells : List AV)
 | row (e : TypeId) (sz : Nat) (xs : List AV)
 | drow (op : Bool) (ds : List Ds) (e : TypeId) (sz : Nat) (xs : List AV)
 deriving Inhabited
theorem add_add (a : Addr) (m n : Nat) : (a.add m).add n = a.add (m + n):=by
 unfold Addr.add
 by_cases hn : n = 0
 ·subst hn;simp
 ·by_cases hm : m = 0
  ·subst hm;simp
  ·simp [hn,hm,Nat.add_assoc]
theorem al5 (a : Addr) (n : Nat) : (a.add n).block = a.block:=by unfold Addr.add;split <;> rfl
theorem add_lit (g m : Nat) : (⟨g,0,none⟩ : Addr).add m = ⟨g,m,none⟩:=by unfold Addr.add;split <;> simp_all
theorem aw3 (g m n : Nat) : (⟨g,m,none⟩ : Addr).add n = ⟨g,m + n,none⟩:=by unfold Addr.add;split <;> simp_all
theorem aS7 {w w' : World} {a : Addr} (h : w'.heap[a.block]? = w.heap[a.block]?) : w'.cell? a = w.cell? a:=World.cell?_of_block (w:=w) h
inductive C3 (Z : Nat→Prop) (w : World) : AV→Value→Prop
 | lit {v : Value} : v.oneCell' = true→C3 Z w (.lit v) v
 | junk {v : Value} : v.oneCell' = true→C3 Z w .junk v
 | sl {z : Fl} {sz : Nat} {xs : List AV} {A : Option Addr} {c : Nat} (ad : Addr) (f : Nat→Nat→Value) (hc : xs.length≤c) (hm : xs.length≤9223372036854775807) (hz : 0 < sz) (hA : 0 < xs.length→A = some ad∧Z ad.block)
  (hl : ∀ (j : Nat) (x : AV),xs[j]? = some x→x.leaves.length = sz)
  (hcell : ∀ (j : Nat) (x : AV) (i : Nat) (lv : AV),xs[j]? = some x→x.leaves[i]? = some lv→w.cell? (ad.add (j * sz + i)) = some (f j i))
  (hrep : ∀ (j : Nat) (x : AV) (i : Nat) (lv : AV),xs[j]? = some x→x.leaves[i]? = some lv→C3 Z w lv (f j i)) : C3 Z w (.sl z sz xs) (.slice A xs.length c)
theorem C3.one {Z : Nat→Prop} {w : World} {x : AV} {u : Value} (h : C3 Z w x u) : u.oneCell' = true:=by cases h <;> first | assumption | rfl
theorem C3.move {Z Z' : Nat→Prop} {w w' : World} {x : AV} {u : Value} (h : C3 Z w x u) (hk : ∀ k,Z k→w'.heap[k]? = w.heap[k]?) (hZ : ∀ k,Z k→Z' k) : C3 Z' w' x u:=by
 induction h with
 | lit h=>exact .lit h
 | junk h=>exact .junk h
 | @sl z sz xs A c ad f hc hm hz hA hl hcell hrep ih=>
  refine .sl ad f hc hm hz (fun hp=>⟨(hA hp).1,hZ _ (hA hp).2⟩) hl (fun j x i lv hj hi=>?_) ih
  have hp : 0 < xs.length:=Nat.lt_of_le_of_lt (Nat.zero_le _) (List.getElem?_eq_some_iff.1 hj).1
  rw [aS7 (w:=w) (by rw [al5];exact hk _ (hA hp).2)]
  exact hcell j x i lv hj hi
theorem C3.flag {Z : Nat→Prop} {w : World} {z z' : Fl} {sz : Nat} {xs : List AV} {u : Value} (h : C3 Z w (.sl z sz xs) u) : C3 Z w (.sl z' sz xs) u:=by
 cases h with
 | sl ad f hc hm hz hA hl hcell hrep=>exact .sl ad f hc hm hz hA hl hcell hrep
def M9 : Value→Option Nat
 | .pointer (some a)=>some a.block
 | .slice (some a) _ _=>some a.block
 | _=>none
def O7 (Zn : Nat→Prop) (w : World) (e sz : Nat) (v : Value) (xs : List AV) : Prop:=0 < sz∧∃ inner,S8 w 0 e sz v xs.length inner∧(∀ (j : Nat) (x : AV),xs[j]? = some x→x.leaves.length = sz) ∧
 ∀ (j : Nat) (x : AV) (i : Nat) (lv : AV),xs[j]? = some x→x.leaves[i]? = some lv→∃ u,inner[j * sz + i]? = some u∧C3 Zn w lv u
abbrev Tr:=List Nat→Option Nat
def Tr.sub (t : Tr) (i : Nat) : Tr:=fun p=>t (i :: p)
inductive Lv (Zn : Nat→Prop) (w : World) : Tr→Ds→AV→Value→Prop
 | v {t : Tr} {x : AV} {u : Value} (h : C3 Zn w x u) : Lv Zn w t .v x u
 | junk {t : Tr} {d : Ds} {u : Value} (h : u.oneCell' = true) : Lv Zn w t d .junk u
 | own {t : Tr} {e : Nat} {ds : List Ds} {z : Fl} {sz : Nat} {xs : List AV} {u : Value} (inner : List Value) (g : Nat→Nat→Value) (h0 : 0 < sz) (ho : S8 w 0 e sz u xs.length inner) (hr : M9 u = t [])
  (hl : ∀ (j : Nat) (x : AV),xs[j]? = some x→x.leaves.length = sz)
  (hc : ∀ (j : Nat) (x : AV) (i : Nat) (lv : AV),xs[j]? = some x→x.leaves[i]? = some lv→inner[j * sz + i]? = some (g j i))
  (hv : ∀ (j : Nat) (x : AV) (i : Nat) (lv : AV),xs[j]? = some x→x.leaves[i]? = some lv→Lv Zn w (t.sub (j * sz + i)) (ds.getD i .v) lv (g j i)) : Lv Zn w t (.own e ds) (.sl z sz xs) u
theorem bq5 {w : World} {e sz : Nat} {u : Value} {n : Nat} {inner : List Value} (h : S8 w 0 e sz u n inner) : u.oneCell' = true:=by
 rcases h.2 with ⟨h1,_⟩ | ⟨_,_,_,h1,_⟩ <;> rw [h1] <;> rfl
theorem aJ1 {w w' : World} {e sz : Nat} {u : Value} {n : Nat} {inner : List Value} (h : S8 w 0 e sz u n inner) (hk : ∀ k,M9 u = some k→w'.heap[k]? = w.heap[k]?) : S8 w' 0 e sz u n inner:=by
 refine ⟨h.1,?_⟩
 rcases h.2 with h1 | ⟨g,cap,cur,rfl,hg,hh,r⟩
 ·exact .inl h1
 ·exact .inr ⟨g,cap,cur,rfl,hg,hh.kept (hk g rfl),r⟩
theorem Lv.one {Zn : Nat→Prop} {w : World} {t : Tr} {d : Ds} {x : AV} {u : Value} (h : Lv Zn w t d x u) : u.oneCell' = true:=by
 cases h with
 | v h=>exact h.one
 | junk h=>exact h
 | own inner g h0 ho=>exact bq5 ho
theorem Lv.move {Zn Zn' : Nat→Prop} {w w' : World} {t : Tr} {d : Ds} {x : AV} {u : Value} (h : Lv Zn w t d x u) (hn : ∀ k,Zn k→w'.heap[k]? = w.heap[k]?∧Zn' k) (hk : ∀ p k,t p = some k→w'.heap[k]? = w.heap[k]?) : Lv Zn' w' t d x u:=by
 induction h with
 | v h=>exact .v (h.move (fun k hk=>(hn k hk).1) (fun k hk=>(hn k hk).2))
 | junk h=>exact .junk h
 | @own t e ds z sz xs u inner g h0 ho hr hl hc hv ih=>
  exact .own inner g h0 (aJ1 ho (fun k h=>hk [] k (hr▸h))) hr hl hc (fun j x i lv hj hi=>ih j x i lv hj hi (fun p k h=>hk ((j * sz + i) :: p) k h))
section
variable (Zf : Fl→Nat→Prop) (w : World) (ρ : Nat→Value) (bk : Nat→l9)
def I9 : AV→Value→Prop
 | .junk,u=>u.oneCell' = true
 | .lit v,u=>u = v∧v.oneCell' = true
 | .box b o,u=>bk b≠.fresh∧∃ g,ρ b = .pointer (some ⟨g,0,none⟩)∧u = .pointer (some ⟨g,o,none⟩)
 | .row b,u=>bk b≠.fresh∧u = ρ b∧u.oneCell' = true
 | .sub b sz lo n,u=>bk b≠.fresh∧∃ A N c,ρ b = .slice A N c∧lo + n≤N∧u = sliced A lo (lo + n) c sz
 | .elp b sz i j,u=>bk b≠.fresh∧∃ g n c,ρ b = .slice (some ⟨g,0,none⟩) n c∧u = .pointer (some ⟨g,i * sz + j,none⟩)
 | .sl z sz xs,u=>C3 (Zf z) w (.sl z sz xs) u
 | .rp z x j,u=>∃ (ad : Addr) (f : Nat→Value),u = .pointer (some (ad.add j))∧Zf z ad.block∧∀ (i : Nat) (lv : AV),x.leaves[i]? = some lv→w.cell? (ad.add i) = some (f i)∧C3 (Zf z) w lv (f i)
 | _,_=>False
def ad9 (x : AV) (u : Value) : Prop:=I9 Zf w ρ bk x u∨∃ (l : List AV) (cs : List Value),x = .agg l∧u = .agg cs.toArray∧Fa (I9 Zf w ρ bk) l cs
def L6 (x : AV) (u : Value) : Prop:=I9 Zf w ρ bk x u∨∃ (f : Nat) (caps : List AV) (cs : List Value),x = .fn f caps∧u = .func (.func f) #[] cs.toArray∧Fa (ad9 Zf w ρ bk) caps cs
def ab0 (x : AV) (u : Value) : Prop:=L6 Zf w ρ bk x u∨∃ (l : List AV) (cs : List Value),x = .agg l∧u = .agg cs.toArray∧Fa (L6 Zf w ρ bk) l cs
def G9 (x : AV) (u : Value) : Prop:=x = .junk∨x = .lit u∨ab0 Zf w ρ bk x u∨∃ (l : List AV) (cs : List Value),x = .tup l∧u = .tuple cs.toArray∧Fa (ab0 Zf w ρ bk) l cs
def LfD (op : Bool) (t : Tr) (d : Ds) (lv : AV) (u : Value) : Prop:=Lv (Zf .n) w t d lv u∨(∃ c,op = true∧lv = .row c∧bk c≠.fresh∧u = ρ c∧u.oneCell' = true)
def ai6 (op : Bool) (ds : List Ds) (t : Tr) (e sz : Nat) (v : Value) (xs : List AV) : Prop:=0 < sz∧∃ inner,S8 w 0 e sz v xs.length inner∧(∀ (j : Nat) (x : AV),xs[j]? = some x→x.leaves.length = sz) ∧
 ∀ (j : Nat) (x : AV) (i : Nat) (lv : AV),xs[j]? = some x→x.leaves[i]? = some lv→∃ u,inner[j * sz + i]? = some u∧LfD Zf w ρ bk op (t.sub (j * sz + i)) (ds.getD i .v) lv u
def R3 (v : Value) : l9→Prop
 | .box t cells=>∃ g,∃ cs : List Value,v = .pointer (some ⟨g,0,none⟩)∧w.heap[g]? = some (.cells cs.toArray t (0,0))∧Fa (L6 Zf w ρ bk) cells cs
 | .row e sz xs=>O7 (Zf .n) w e sz v xs
 | _=>True
end
def ad3 : l9→Bool
 | .box .. | .row .. | .drow ..=>true
 | _=>false
def isD : l9→Bool
 | .drow ..=>true
 | _=>false
def O9 (ρ : Nat→Value) (bk : Nat→l9) (b k : Nat) : Prop:=ad3 (bk b) = true∧M9 (ρ b) = some k
def K4 (ρ : Nat→Value) (ω : Nat→Tr) (bk : Nat→l9) (b k : Nat) : Prop:=ad3 (bk b) = true∧(M9 (ρ b) = some k∨(isD (bk b) = true∧∃ i p,ω b (i :: p) = some k))
theorem O9.deep {ρ : Nat→Value} {ω : Nat→Tr} {bk : Nat→l9} {b k : Nat} (h : O9 ρ bk b k) : K4 ρ ω bk b k:=⟨h.1,.inl h.2⟩
theorem K4.flat {ρ : Nat→Value} {ω : Nat→Tr} {bk : Nat→l9} {b k : Nat} (h : K4 ρ ω bk b k) (hf : isD (bk b) = false) : O9 ρ bk b k:=⟨h.1,by rcases h.2 with h | ⟨h,_⟩;exact h;rw [hf] at h;cases h⟩
def bk3 (v : Value) (t : Tr) : Prop:=(∀ i p k,t (i :: p) = some k→M9 v≠some k)∧∀ i p j q k,t (i :: p) = some k→t (j :: q) = some k→i = j∧p = q
structure C5 where
 W0 : World
 Z0 : Nat→Prop
 Zi : Nat→Prop
 Zy : Nat→Prop
 ρ0 : Nat→Option Value
def fz (E : C5) (Zn : Nat→Prop) : Fl→Nat→Prop
 | .o=>fun k=>E.Z0 k∨Zn k
 | .n=>Zn
 | .u=>E.Zy
structure bn6 (E : C5) (Zn : Nat→Prop) (ρ : Nat→Value) (ω : Nat→Tr) (bk : Nat→l9) (w : World) : Prop where
 row : ∀ b op ds e sz xs,bk b = .drow op ds e sz xs→ai6 (fz E Zn) w ρ bk op ds (ω b) e sz (ρ b) xs
 tree : ∀ b,isD (bk b) = true→bk3 (ρ b) (ω b)
 lt : ∀ b k,K4 ρ ω bk b k→k < w.heap.size
 out : ∀ b k,K4 ρ ω bk b k→¬ E.Z0 k∧¬ Zn k
 sep : ∀ b b' k,K4 ρ ω bk b k→K4 ρ ω bk b' k→b = b'
structure St (E : C5) (nt : Nat) (ρ : Nat→Value) (Zn : Nat→Prop) (tm : Nat→AV) (bk : Nat→l9) (a : Act) (w : World) : Prop where
 os : w.os = E.W0.os
 tape : w.tape = E.W0.tape
 output : w.output = E.W0.output
 size : E.W0.heap.size≤w.heap.size
 z0 : ∀ k,E.Z0 k→k < E.W0.heap.size
 keep : ∀ k,E.Z0 k→w.heap[k]? = E.W0.heap[k]?
 zi : ∀ k,E.Zi k→Zn k
 zy : ∀ k,E.Zy k→E.Z0 k
 zn : ∀ k,Zn k→k < w.heap.size∧(E.Zi k∨¬ E.Z0 k)
 fix : ∀ b v,E.ρ0 b = some v→bk b≠.fresh∧ρ b = v
 blk : ∀ b,R3 (fz E Zn) w ρ bk (ρ b) (bk b)
 deep : ∃ ω,bn6 E Zn ρ ω bk w
 defers : a.defers = []
 ntmps : a.tmps.size = nt
 tmp : ∀ i : Nat,G9 (fz E Zn) w ρ bk (tm i) (a.eval (.tmp i))
def Z7 (E : C5) (nt : Nat) (tm : Nat→AV) (bk : Nat→l9) (a : Act) (w : World) : Prop:=∃ ρ Zn,St E nt ρ Zn tm bk a w
section
variable {Zf Zf' : Fl→Nat→Prop} {w w' : World} {ρ ρ' : Nat→Value} {bk bk' : Nat→l9}
structure Mv (Zf Zf' : Fl→Nat→Prop) (w w' : World) (ρ ρ' : Nat→Value) (bk bk' : Nat→l9) : Prop where
 hz : ∀ z k,Zf z k→w'.heap[k]? = w.heap[k]?∧Zf' z k
 hr : ∀ b,bk b≠.fresh→bk' b≠.fresh∧ρ' b = ρ b
theorem I9.move (m : Mv Zf Zf' w w' ρ ρ' bk bk') {x : AV} {u : Value} (h : I9 Zf w ρ bk x u) : I9 Zf' w' ρ' bk' x u:=by
 cases x with
 | junk=>exact h
 | lit v=>exact h
 | box b o=>obtain ⟨h1,g,h2,h3⟩:=h;exact ⟨(m.hr b h1).1,g,(m.hr b h1).2.trans h2,h3⟩
 | row b=>obtain ⟨h1,h2,h3⟩:=h;exact ⟨(m.hr b h1).1,h2.trans (m.hr b h1).2.symm,h3⟩
 | sub b sz lo n=>obtain ⟨h1,A,N,c,h2,h3⟩:=h;exact ⟨(m.hr b h1).1,A,N,c,(m.hr b h1).2.trans h2,h3⟩
 | elp b sz i j=>obtain ⟨h1,g,n,c,h2,h3⟩:=h;exact ⟨(m.hr b h1).1,g,n,c,(m.hr b h1).2.trans h2,h3⟩
 | sl z sz xs=>exact C3.move h (fun k hk=>(m.hz z k hk).1) (fun k hk=>(m.hz z k hk).2)
 | rp z x j=>
  obtain ⟨ad,f,h1,h2,h3⟩:=h
  refine ⟨ad,f,h1,(m.hz z _ h2).2,fun i lv hi=>⟨?_,(h3 i lv hi).2.move (fun k hk=>(m.hz z k hk).1) (fun k hk=>(m.hz z k hk).2)⟩⟩
  rw [aS7 (w:=w) (by rw [al5];exact (m.hz z _ h2).1)]
  exact (h3 i lv hi).1
 | _=>exact h
theorem ad9.move (m : Mv Zf Zf' w w' ρ ρ' bk bk') {x : AV} {u : Value} (h : ad9 Zf w ρ bk x u) : ad9 Zf' w' ρ' bk' x u:=by
 rcases h with h | ⟨l,cs,h1,h2,h3⟩
 ·exact .inl (I9.move m h)
 ·exact .inr ⟨l,cs,h1,h2,h3.imp fun _ _ h=>I9.move m h⟩
theorem L6.move (m : Mv Zf Zf' w w' ρ ρ' bk bk') {x : AV} {u : Value} (h : L6 Zf w ρ bk x u) : L6 Zf' w' ρ' bk' x u:=by
 rcases h with h | ⟨f,l,cs,h1,h2,h3⟩
 ·exact .inl (I9.move m h)
 ·exact .inr ⟨f,l,cs,h1,h2,h3.imp fun _ _ h=>ad9.move m h⟩
theorem ab0.move (m : Mv Zf Zf' w w' ρ ρ' bk bk') {x : AV} {u : Value} (h : ab0 Zf w ρ bk x u) : ab0 Zf' w' ρ' bk' x u:=by
 rcases h with h | ⟨l,cs,h1,h2,h3⟩
 ·exact .inl (L6.move m h)
 ·exact .inr ⟨l,cs,h1,h2,h3.imp fun _ _ h=>L6.move m h⟩
theorem G9.move (m : Mv Zf Zf' w w' ρ ρ' bk bk') {x : AV} {u : Value} (h : G9 Zf w ρ bk x u) : G9 Zf' w' ρ' bk' x u:=by
 rcases h with h | h | h | ⟨l,cs,h1,h2,h3⟩
 ·exact .inl h
 ·exact .inr (.inl h)
 ·exact .inr (.inr (.inl (ab0.move m h)))
 ·exact .inr (.inr (.inr ⟨l,cs,h1,h2,h3.imp fun _ _ h=>ab0.move m h⟩))
end
theorem bP5 {Zf : Fl→Nat→Prop} {w : World} {ρ : Nat→Value} {bk : Nat→l9} {v : Value} {b : l9} (h : R3 Zf w ρ bk v b) (hl : ad3 b = true) (hf : isD b = false) {k : Nat} (hk : M9 v = some k) : k < w.heap.size:=by
 cases b with
 | fresh=>cases hl
 | gone=>cases hl
 | drow op ds e sz xs=>cases hf
 | box t cells=>
  obtain ⟨g,cs,rfl,hg,_⟩:=h
  simp [M9] at hk
  subst hk
  exact (Array.getElem?_eq_some_iff.1 hg).1
 | row e sz xs=>
  obtain ⟨_,inner,ho,_⟩:=h
  refine (ho.lt k ?_).2
  cases v with
  | slice a n c=>cases a with
   | none=>simp [M9] at hk
   | some a=>exact hk
  | pointer a=>rcases ho.2 with ⟨h1,_⟩ | ⟨_,_,_,h1,_⟩ <;> cases h1
  | _=>simp [M9] at hk
theorem St.own_lt {E : C5} {nt : Nat} {ρ : Nat→Value} {Zn : Nat→Prop} {tm : Nat→AV} {bk : Nat→l9} {a : Act} {w : World} (h : St E nt ρ Zn tm bk a w) {b k : Nat} (hk : O9 ρ bk b k) : k < w.heap.size:=h.deep.elim fun _ d=>d.lt b k hk.deep
theorem St.out {E : C5} {nt : Nat} {ρ : Nat→Value} {Zn : Nat→Prop} {tm : Nat→AV} {bk : Nat→l9} {a : Act} {w : World} (h : St E nt ρ Zn tm bk a w) (b k : Nat) (hk : O9 ρ bk b k) : ¬ E.Z0 k∧¬ Zn k:=h.deep.elim fun _ d=>d.out b k hk.deep
theorem St.sep {E : C5} {nt : Nat} {ρ : Nat→Value} {Zn : Nat→Prop} {tm : Nat→AV} {bk : Nat→l9} {a : Act} {w : World} (h : St E nt ρ Zn tm bk a w) (b b' k : Nat) (hk : O9 ρ bk b k) (hk' : O9 ρ bk b' k) : b = b':=h.deep.elim fun _ d=>d.sep b b' k hk.deep hk'.deep
theorem ai6.move {Zf Zf' : Fl→Nat→Prop} {w w' : World} {ρ ρ' : Nat→Value} {bk bk' : Nat→l9} (m : Mv Zf Zf' w w' ρ ρ' bk bk') {op : Bool} {ds : List Ds} {t : Tr} {e sz : Nat} {v : Value} {xs : List AV} (h : ai6 Zf w ρ bk op ds t e sz v xs) (hk : ∀ k,M9 v = some k→w'.heap[k]? = w.heap[k]?) (ht : ∀ i p k,t (i :: p) = some k→w'.heap[k]? = w.heap[k]?) : ai6 Zf' w' ρ' bk' op ds t e sz v xs:=by
 obtain ⟨h0,inner,ho,hl,hr⟩:=h
 refine ⟨h0,inner,aJ1 ho hk,hl,fun j x i lv hj hi=>?_⟩
 obtain ⟨u,hu,hv⟩:=hr j x i lv hj hi
 refine ⟨u,hu,?_⟩
 rcases hv with hv | ⟨c,h0',h1,h2,h3,h4⟩
 ·exact .inl (hv.move (m.hz .n) (fun p k h=>ht _ p k h))
 ·exact .inr ⟨c,h0',h1,(m.hr c h2).1,h3.trans (m.hr c h2).2.symm,h4⟩
theorem O7.move {Zn Zn' : Nat→Prop} {w w' : World} {e sz : Nat} {v : Value} {xs : List AV} (h : O7 Zn w e sz v xs) (hn : ∀ k,Zn k→w'.heap[k]? = w.heap[k]?∧Zn' k) (hk : ∀ k,M9 v = some k→w'.heap[k]? = w.heap[k]?) : O7 Zn' w' e sz v xs:=by
 obtain ⟨h0,inner,ho,hl,hr⟩:=h
 refine ⟨h0,inner,⟨ho.1,?_⟩,hl,fun j x i lv hj hi=>?_⟩
 ·rcases ho.2 with h1 | ⟨g,cap,cur,rfl,hg,hh,r⟩
  ·exact .inl h1
  ·exact .inr ⟨g,cap,cur,rfl,hg,hh.kept (hk g rfl),r⟩
 ·obtain ⟨u,hu,hv⟩:=hr j x i lv hj hi
  exact ⟨u,hu,hv.move (fun k hk=>(hn k hk).1) (fun k hk=>(hn k hk).2)⟩
theorem R3.move {Zf Zf' : Fl→Nat→Prop} {w w' : World} {ρ ρ' : Nat→Value} {bk bk' : Nat→l9} (m : Mv Zf Zf' w w' ρ ρ' bk bk') {v : Value} {b : l9} (h : R3 Zf w ρ bk v b) (hk : ∀ k,ad3 b = true→M9 v = some k→w'.heap[k]? = w.heap[k]?) : R3 Zf' w' ρ' bk' v b:=by
 cases b with
 | fresh=>trivial
 | gone=>trivial
 | drow op ds e sz xs=>trivial
 | box t cells=>
  obtain ⟨g,cs,rfl,hg,hf⟩:=h
  exact ⟨g,cs,rfl,(hk g rfl rfl).trans hg,hf.imp fun _ _ h=>L6.move m h⟩
 | row e sz xs=>exact O7.move h (m.hz .n) (fun k=>hk k rfl)
theorem St.updD {E : C5} {nt : Nat} {ρ ρ' : Nat→Value} {Zn Zn' : Nat→Prop} {tm tm' : Nat→AV} {bk bk' : Nat→l9} {a a' : Act} {w w' : World} (h : St E nt ρ Zn tm bk a w) {ω : Nat→Tr} (d : bn6 E Zn ρ ω bk w) (ω' : Nat→Tr) (U : Nat→Prop)
 (hos : w'.os = w.os) (htape : w'.tape = w.tape) (hout : w'.output = w.output) (hsize : w.heap.size≤w'.heap.size)
 (hk : ∀ k,k < w.heap.size→(∀ b,U b→¬ K4 ρ ω bk b k)→w'.heap[k]? = w.heap[k]?)
 (hρ : ∀ b,¬ U b→ρ' b = ρ b) (hb : ∀ b,¬ U b→bk' b = bk b) (hω : ∀ b,¬ U b→ω' b = ω b)
 (hU : ∀ b,U b→bk b≠.fresh→bk' b≠.fresh∧ρ' b = ρ b)
 (hZ : ∀ k,Zn k→Zn' k) (hZ' : ∀ k,Zn' k→Zn k∨(k < w'.heap.size∧(w.heap.size≤k∨∃ b,U b∧K4 ρ ω bk b k)))
 (hB : ∀ b,U b→Mv (fz E Zn) (fz E Zn') w w' ρ ρ' bk bk'→R3 (fz E Zn') w' ρ' bk' (ρ' b) (bk' b))
 (hR : ∀ b op ds e sz xs,U b→Mv (fz E Zn) (fz E Zn') w w' ρ ρ' bk bk'→bk' b = .drow op ds e sz xs→ai6 (fz E Zn') w' ρ' bk' op ds (ω' b) e sz (ρ' b) xs)
 (hT : ∀ b,U b→isD (bk' b) = true→bk3 (ρ' b) (ω' b))
 (hO : ∀ b k,U b→K4 ρ' ω' bk' b k→(w.heap.size≤k∨∃ b0,U b0∧K4 ρ ω bk b0 k)∧¬ Zn' k)
 (hL : ∀ b k,U b→K4 ρ' ω' bk' b k→Mv (fz E Zn) (fz E Zn') w w' ρ ρ' bk bk'→k < w'.heap.size)
 (hS : ∀ b b' k,U b→U b'→K4 ρ' ω' bk' b k→K4 ρ' ω' bk' b' k→b = b')
 (hd : a'.defers = a.defers) (hn : a'.tmps.size = a.tmps.size)
 (ht : ∀ i : Nat,(tm' i = tm i∧a'.eval (.tmp i) = a.eval (.tmp i))∨(Mv (fz E Zn) (fz E Zn') w w' ρ ρ' bk bk'→G9 (fz E Zn') w' ρ' bk' (tm' i) (a'.eval (.tmp i)))) : St E nt ρ' Zn' tm' bk' a' w':=by
 have hz0 : ∀ k,E.Z0 k→w'.heap[k]? = w.heap[k]?:=fun k hz=>hk k (Nat.lt_of_lt_of_le (h.z0 k hz) h.size) (fun b _ ho=>(d.out b k ho).1 hz)
 have hzn : ∀ k,Zn k→w'.heap[k]? = w.heap[k]?:=fun k hz=>hk k (h.zn k hz).1 (fun b _ ho=>(d.out b k ho).2 hz)
 have hf : ∀ b,bk b≠.fresh→bk' b≠.fresh∧ρ' b = ρ b:=fun b hb'=>by
  by_cases hu : U b
  ·exact hU b hu hb'
  ·exact ⟨by rw [hb b hu];exact hb',hρ b hu⟩
 have m : Mv (fz E Zn) (fz E Zn') w w' ρ ρ' bk bk':=⟨fun z k hz=>by
  cases z with
  | o=>
   rcases hz with hz | hz
   ·exact ⟨hz0 k hz,.inl hz⟩
   ·exact ⟨hzn k hz,.inr (hZ k hz)⟩
  | n=>exact ⟨hzn k hz,hZ k hz⟩
  | u=>exact ⟨hz0 k (h.zy k hz),hz⟩,hf⟩
 have own_old : ∀ b k,¬ U b→K4 ρ' ω' bk' b k→K4 ρ ω bk b k:=fun b k hu ho=>by
  unfold K4 at ho ⊢
  rw [hb b hu,hρ b hu,hω b hu] at ho
  exact ho
 have same : ∀ b k,¬ U b→K4 ρ ω bk b k→w'.heap[k]? = w.heap[k]?:=fun b k hu ho=>hk k (d.lt b k ho) (fun b' hu' ho'=>hu (d.sep b b' k ho ho'▸hu'))
 have znlt : ∀ k,Zn' k→k < w'.heap.size∧(E.Zi k∨¬ E.Z0 k):=fun k hz=>by
  rcases hZ' k hz with hz | ⟨hz1,hz2⟩
  ·exact ⟨Nat.lt_of_lt_of_le (h.zn k hz).1 hsize,(h.zn k hz).2⟩
  ·refine ⟨hz1,.inr fun h0=>?_⟩
   rcases hz2 with hz2 | ⟨b,_,ho⟩
   ·exact absurd (Nat.lt_of_lt_of_le (h.z0 k h0) h.size) (Nat.not_lt.2 hz2)
   ·exact (d.out b k ho).1 h0
 refine ⟨hos.trans h.os,htape.trans h.tape,hout.trans h.output,Nat.le_trans h.size hsize,h.z0,fun k hz=>(hz0 k hz).trans (h.keep k hz),fun k hz=>hZ k (h.zi k hz),h.zy,znlt,fun b v hv=>?_,fun b=>?_,⟨ω',fun b op ds e sz xs hbk=>?_,fun b hbk=>?_,fun b k ho=>?_,fun b k ho=>?_,fun b b' k ho ho'=>?_⟩,hd.trans h.defers,hn.trans h.ntmps,fun i=>?_⟩
 ·have h1:=h.fix b v hv
  exact ⟨(hf b h1.1).1,(hf b h1.1).2.trans h1.2⟩
 ·by_cases hu : U b
  ·exact hB b hu m
  ·rw [hρ b hu,hb b hu]
   exact R3.move m (h.blk b) (fun k hl hr=>same b k hu ⟨hl,.inl hr⟩)
 ·by_cases hu : U b
  ·exact hR b op ds e sz xs hu m hbk
  ·rw [hb b hu] at hbk
   rw [hρ b hu,hω b hu]
   have hl : ad3 (bk b) = true:=by rw [hbk];rfl
   exact (d.row b op ds e sz xs hbk).move m (fun k hr=>same b k hu ⟨hl,.inl hr⟩) (fun i p k ht=>same b k hu ⟨hl,.inr ⟨by rw [hbk];rfl,i,p,ht⟩⟩)
 ·by_cases hu : U b
  ·exact hT b hu hbk
  ·rw [hρ b hu,hω b hu]
   rw [hb b hu] at hbk
   exact d.tree b hbk
 ·by_cases hu : U b
  ·exact hL b k hu ho m
  ·exact Nat.lt_of_lt_of_le (d.lt b k (own_old b k hu ho)) hsize
 ·by_cases hu : U b
  ·obtain ⟨h1,h2⟩:=hO b k hu ho
   refine ⟨fun h0=>?_,h2⟩
   rcases h1 with h1 | ⟨b0,_,h1⟩
   ·exact absurd (Nat.lt_of_lt_of_le (h.z0 k h0) h.size) (Nat.not_lt.2 h1)
   ·exact (d.out b0 k h1).1 h0
  ·have ho':=own_old b k hu ho
   refine ⟨(d.out b k ho').1,fun hz=>?_⟩
   rcases hZ' k hz with hz | ⟨_,hz2⟩
   ·exact (d.out b k ho').2 hz
   ·rcases hz2 with hz2 | ⟨b',hu',ho2⟩
    ·exact absurd (d.lt b k ho') (Nat.not_lt.2 hz2)
    ·exact hu (d.sep b b' k ho' ho2▸hu')
 ·by_cases hu : U b
  ·by_cases hu' : U b'
   ·exact hS b b' k hu hu' ho ho'
   ·have h1:=own_old b' k hu' ho'
    rcases (hO b k hu ho).1 with h2 | ⟨b0,hu0,h2⟩
    ·exact absurd (d.lt b' k h1) (Nat.not_lt.2 h2)
    ·exact absurd (d.sep b' b0 k h1 h2▸hu0) hu'
  ·have h1:=own_old b k hu ho
   by_cases hu' : U b'
   ·rcases (hO b' k hu' ho').1 with h2 | ⟨b0,hu0,h2⟩
    ·exact absurd (d.lt b k h1) (Nat.not_lt.2 h2)
    ·exact absurd (d.sep b b0 k h1 h2▸hu0) hu
   ·exact d.sep b b' k h1 (own_old b' k hu' ho')
 ·rcases ht i with ⟨h1,h2⟩ | h1
  ·rw [h1,h2]
   exact G9.move m (h.tmp i)
  ·exact h1 m
theorem St.upd {E : C5} {nt : Nat} {ρ ρ' : Nat→Value} {Zn Zn' : Nat→Prop} {tm tm' : Nat→AV} {bk bk' : Nat→l9} {a a' : Act} {w w' : World} (h : St E nt ρ Zn tm bk a w) (U : Nat→Prop)
 (hos : w'.os = w.os) (htape : w'.tape = w.tape) (hout : w'.output = w.output) (hsize : w.heap.size≤w'.heap.size)
 (hk : ∀ k,k < w.heap.size→(∀ b,U b→¬ O9 ρ bk b k)→w'.heap[k]? = w.heap[k]?)
 (hρ : ∀ b,¬ U b→ρ' b = ρ b) (hb : ∀ b,¬ U b→bk' b = bk b)
 (hU : ∀ b,U b→bk b≠.fresh→bk' b≠.fresh∧ρ' b = ρ b)
 (hZ : ∀ k,Zn k→Zn' k) (hZ' : ∀ k,Zn' k→Zn k∨(k < w'.heap.size∧(w.heap.size≤k∨∃ b,U b∧O9 ρ bk b k)))
 (hB : ∀ b,U b→Mv (fz E Zn) (fz E Zn') w w' ρ ρ' bk bk'→R3 (fz E Zn') w' ρ' bk' (ρ' b) (bk' b))
 (hO : ∀ b k,U b→O9 ρ' bk' b k→(w.heap.size≤k∨∃ b0,U b0∧O9 ρ bk b0 k)∧¬ Zn' k)
 (hS : ∀ b b' k,U b→U b'→O9 ρ' bk' b k→O9 ρ' bk' b' k→b = b')
 (hd : a'.defers = a.defers) (hn : a'.tmps.size = a.tmps.size)
 (ht : ∀ i : Nat,(tm' i = tm i∧a'.eval (.tmp i) = a.eval (.tmp i))∨(Mv (fz E Zn) (fz E Zn') w w' ρ ρ' bk bk'→G9 (fz E Zn') w' ρ' bk' (tm' i) (a'.eval (.tmp i))))
 (hF : ∀ b,U b→isD (bk b) = false∧isD (bk' b) = false) : St E nt ρ' Zn' tm' bk' a' w':=by
 obtain ⟨ω,d⟩:=h.deep
 refine h.updD d ω U hos htape hout hsize (fun k hl hn=>hk k hl fun b hu ho=>hn b hu ho.deep) hρ hb (fun _ _=>rfl) hU hZ (fun k hz=>?_) hB (fun b op ds e sz xs hu _ hbk=>?_) (fun b hu hbk=>?_) (fun b k hu ho=>?_) (fun b k hu ho m=>?_) (fun b b' k hu hu' ho ho'=>hS b b' k hu hu' (ho.flat (hF b hu).2) (ho'.flat (hF b' hu').2)) hd hn ht
 ·rcases hZ' k hz with hz | ⟨h1,h2⟩
  ·exact .inl hz
  ·exact .inr ⟨h1,h2.imp id fun ⟨b,hu,ho⟩=>⟨b,hu,ho.deep⟩⟩
 ·have:=(hF b hu).2;rw [hbk] at this;cases this
 ·rw [(hF b hu).2] at hbk;cases hbk
 ·obtain ⟨h1,h2⟩:=hO b k hu (ho.flat (hF b hu).2)
  exact ⟨h1.imp id fun ⟨b0,hu0,ho0⟩=>⟨b0,hu0,ho0.deep⟩,h2⟩
 ·have ho':=ho.flat (hF b hu).2
  exact bP5 (hB b hu m) ho'.1 (hF b hu).2 ho'.2
end Go.Proofs.YtahmbcgolnplgaaGreatA
namespace Go.Proofs.YtahmbcgolnplgaaGreatA
open Go
theorem N1 {Zf : Fl→Nat→Prop} {w : World} {ρ : Nat→Value} {bk : Nat→l9} {v u : Value} (h : G9 Zf w ρ bk (.lit v) u) : u = v:=by
 rcases h with h | h | h | ⟨l,cs,h,_⟩
 ·cases h
 ·injection h with h;exact h.symm
 ·rcases h with h | ⟨l,cs,h,_⟩
  ·rcases h with h | ⟨_,_,_,h,_⟩
   ·exact h.1
   ·cases h
  ·cases h
 ·cases h
theorem bA7 {Zf : Fl→Nat→Prop} {w : World} {ρ : Nat→Value} {bk : Nat→l9} {x : AV} {u : Value} (h : I9 Zf w ρ bk x u) : u.oneCell' = true:=by
 cases x with
 | junk=>exact h
 | lit v=>obtain ⟨rfl,h⟩:=h;exact h
 | box b o=>obtain ⟨_,g,_,rfl⟩:=h;rfl
 | row b=>exact h.2.2
 | sub b sz lo n=>obtain ⟨_,A,N,c,_,_,rfl⟩:=h;rfl
 | elp b sz i j=>obtain ⟨_,g,n,c,_,rfl⟩:=h;rfl
 | sl z sz xs=>exact C3.one h
 | rp z x j=>obtain ⟨ad,f,rfl,_⟩:=h;rfl
 | _=>exact h.elim
theorem bl6 {Zf : Fl→Nat→Prop} {w : World} {ρ : Nat→Value} {bk : Nat→l9} {x : AV} {u : Value} (h : L6 Zf w ρ bk x u) : u.oneCell' = true:=by
 rcases h with h | ⟨_,_,_,_,rfl,_⟩
 ·exact bA7 h
 ·rfl
theorem O5 {Zf : Fl→Nat→Prop} {w : World} {ρ : Nat→Value} {bk : Nat→l9} {x : AV} {u : Value} (h : L6 Zf w ρ bk x u) : G9 Zf w ρ bk x u:=.inr (.inr (.inl (.inl h)))
theorem bI5 {Zf : Fl→Nat→Prop} {w : World} {ρ : Nat→Value} {bk : Nat→l9} {x : AV} {u : Value} (h : ab0 Zf w ρ bk x u) : G9 Zf w ρ bk x u:=.inr (.inr (.inl h))
def cg7 : AV→Bool
 | .box .. | .row _ | .sub .. | .elp .. | .sl .. | .rp ..=>true
 | _=>false
theorem L0 {Zf : Fl→Nat→Prop} {w : World} {ρ : Nat→Value} {bk : Nat→l9} {x : AV} {u : Value} (h : G9 Zf w ρ bk x u) (h1 : cg7 x = true) : I9 Zf w ρ bk x u:=by
 rcases h with rfl | rfl | h | ⟨l,cs,rfl,_⟩
 ·cases h1
 ·cases h1
 ·rcases h with h | ⟨l,cs,rfl,_⟩
  ·rcases h with h | ⟨_,_,_,rfl,_⟩
   ·exact h
   ·cases h1
  ·cases h1
 ·cases h1
theorem bV7 {Zf : Fl→Nat→Prop} {w : World} {ρ : Nat→Value} {bk : Nat→l9} {f : Nat} {caps : List AV} {u : Value} (h : G9 Zf w ρ bk (.fn f caps) u) : ∃ cs : List Value,u = .func (.func f) #[] cs.toArray∧Fa (ad9 Zf w ρ bk) caps cs:=by
 rcases h with h | h | h | ⟨l,cs,h,_⟩
 ·cases h
 ·cases h
 ·rcases h with h | ⟨l,cs,h,_⟩
  ·rcases h with h | ⟨f',caps',cs,h,h1,h2⟩
   ·exact h.elim
   ·injection h with h3 h4;subst h3;subst h4;exact ⟨cs,h1,h2⟩
  ·cases h
 ·cases h
theorem bu5 {Zf : Fl→Nat→Prop} {w : World} {ρ : Nat→Value} {bk : Nat→l9} {l : List AV} {u : Value} (h : G9 Zf w ρ bk (.agg l) u) : ∃ cs : List Value,u = .agg cs.toArray∧Fa (L6 Zf w ρ bk) l cs:=by
 rcases h with h | h | h | ⟨l,cs,h,_⟩
 ·cases h
 ·cases h
 ·rcases h with h | ⟨l',cs,h,h1,h2⟩
  ·rcases h with h | ⟨f',caps',cs,h,h1,h2⟩
   ·exact h.elim
   ·cases h
  ·injection h with h;subst h;exact ⟨cs,h1,h2⟩
 ·cases h
theorem br9 {Zf : Fl→Nat→Prop} {w : World} {ρ : Nat→Value} {bk : Nat→l9} {l : List AV} {u : Value} (h : G9 Zf w ρ bk (.tup l) u) : ∃ cs : List Value,u = .tuple cs.toArray∧Fa (ab0 Zf w ρ bk) l cs:=by
 rcases h with h | h | h | ⟨l',cs,h,h1,h2⟩
 ·cases h
 ·cases h
 ·rcases h with h | ⟨l',cs,h,h1,h2⟩
  ·rcases h with h | ⟨f',caps',cs,h,h1,h2⟩
   ·exact h.elim
   ·cases h
  ·cases h
 ·injection h with h;subst h;exact ⟨cs,h1,h2⟩
theorem aU8 {Zf : Fl→Nat→Prop} {w : World} {ρ : Nat→Value} {bk : Nat→l9} {x : AV} {u : Value} (h : ab0 Zf w ρ bk x u) : Fa (L6 Zf w ρ bk) x.leaves u.cells.toList:=by
 rcases h with h | ⟨l,cs,rfl,rfl,h2⟩
 ·have hx : x.leaves = [x]:=by
   cases x <;> first | rfl | (rcases h with h | ⟨_,_,_,h,_⟩;exact h.elim;cases h)
  have hu : u.cells = #[u]:=by
   have:=bl6 h
   cases u <;> first | rfl | cases this
  rw [hx,hu]
  exact Fa.cons h Fa.nil
 ·exact h2
def gT : List (Nat×AV)→Nat→AV
 | [],_=>.junk
 | (j,x) :: r,i=>match Nat.beq i j with
  | true=>x
  | false=>gT r i
def W7 : List (Nat×l9)→Nat→Option l9
 | [],_=>none
 | (j,x) :: r,i=>match Nat.beq i j with
  | true=>some x
  | false=>W7 r i
def gB (l : List (Nat×l9)) (i : Nat) : l9:=match W7 l i with
 | some b=>b
 | none=>.fresh
structure S where
 tm : List (Nat×AV)
 bk : List (Nat×l9)
structure LA where
 dst : Option Nat
 out : AV
 ups : List (Nat×l9)
def bz2 (tm : List (Nat×AV)) (d : Option Nat) (x : AV) : List (Nat×AV):=match d with
 | some d=>(d,x) :: tm
 | none=>tm
def S.app (s : S) (c : LA) : S:=⟨bz2 s.tm c.dst c.out,c.ups ++ s.bk⟩
def T7 (tm : Nat→AV) (d : Option Nat) (x : AV) : Nat→AV:=match d with
 | some d=>fun i=>if i = d then x else tm i
 | none=>tm
def O0 (bk : Nat→l9) (l : List (Nat×l9)) : Nat→l9:=fun b=>match W7 l b with
 | some x=>x
 | none=>bk b
theorem D6 {i j : Nat} (h : Nat.beq i j = true) : i = j:=Nat.eq_of_beq_eq_true h
theorem ad0 {i j : Nat} (h : Nat.beq i j = false) : i≠j:=Nat.ne_of_beq_eq_false h
theorem bE8 (tm : List (Nat×AV)) (d : Option Nat) (x : AV) : gT (bz2 tm d x) = T7 (gT tm) d x:=by
 cases d with
 | none=>rfl
 | some d=>
  funext i
  show (match Nat.beq i d with | true=>x | false=>gT tm i) = if i = d then x else gT tm i
  cases h : Nat.beq i d with
  | true=>simp [D6 h]
  | false=>simp [ad0 h]
theorem aS5 (l m : List (Nat×l9)) (i : Nat) : W7 (l ++ m) i = (match W7 l i with | some b=>some b | none=>W7 m i):=by
 induction l with
 | nil=>rfl
 | cons p r ih=>
  obtain ⟨j,x⟩:=p
  show (match Nat.beq i j with | true=>some x | false=>W7 (r ++ m) i) = (match (match Nat.beq i j with | true=>some x | false=>W7 r i) with | some b=>some b | none=>W7 m i)
  cases Nat.beq i j
  ·exact ih
  ·rfl
theorem ax7 (l m : List (Nat×l9)) : gB (l ++ m) = O0 (gB m) l:=by
 funext i
 unfold gB O0
 rw [aS5]
 cases W7 l i <;> rfl
def Rel (E : C5) (nt : Nat) (s : S) (a : Act) (w : World) : Prop:=Z7 E nt (gT s.tm) (gB s.bk) a w
theorem bQ2 {E : C5} {nt : Nat} {s : S} {c : LA} {a : Act} {w : World} : Rel E nt (s.app c) a w↔Z7 E nt (T7 (gT s.tm) c.dst c.out) (O0 (gB s.bk) c.ups) a w:=by
 unfold Rel S.app
 simp only
 rw [bE8,ax7]
def aq1 (s : S) (lk tl : List Nat) (tm : Nat→AV) (bk : Nat→l9) : Prop:=(∀ t ∈ lk,tm t = gT s.tm t)∧(∀ b ∈ tl,bk b = gB s.bk b)
def s8 (P : Program) (E : C5) (nt : Nat) (o : Oper) (s : S) (c : LA) (lk tl : List Nat) : Prop:=
 ∀ tm bk,aq1 s lk tl tm bk→∀ a w,Z7 E nt tm bk a w→∃ n v w',(execOp a.eval o).run P w = .ok n w'∧(n = .value v∨(n = .skip∧v = undef))∧Z7 E nt (T7 tm c.dst c.out) (O0 bk c.ups) (a.put o.dst v) w'
theorem bo5 {a : Act} {d : Nat} {v : Value} (hd : d < a.tmps.size) (i : Nat) : (a.put (some d) v).eval (.tmp i) = if i = d then v else a.eval (.tmp i):=by
 unfold Act.put Act.eval
 simp only [Array.getD_eq_getD_getElem?]
 by_cases h : i = d
 ·subst h;simp [hd]
 ·rw [if_neg h,Array.getElem?_setIfInBounds_ne (Ne.symm h)]
theorem bn8 (a : Act) (d : Option Nat) (v : Value) : (a.put d v).tmps.size = a.tmps.size:=by cases d <;> simp [Act.put]
theorem aS9 (a : Act) (d : Option Nat) (v : Value) : (a.put d v).defers = a.defers:=by cases d <;> rfl
theorem ba8 (bk : Nat→l9) : O0 bk [] = bk:=rfl
section
variable {P : Program} {E : C5} {nt : Nat} {ρ : Nat→Value} {Zn : Nat→Prop} {tm : Nat→AV} {bk : Nat→l9} {a : Act} {w : World}
theorem St.put (h : St E nt ρ Zn tm bk a w) {d : Nat} (hd : Nat.blt d nt = true) {x : AV} {v : Value} (hx : G9 (fz E Zn) w ρ bk x v) : St E nt ρ Zn (T7 tm (some d) x) bk (a.put (some d) v) w:=by
 have hd' : d < a.tmps.size:=by rw [h.ntmps];exact Nat.blt_eq▸hd
 refine h.upd (fun _=>False) rfl rfl rfl (Nat.le_refl _) (fun _ _ _=>rfl) (fun _ _=>rfl) (fun _ _=>rfl) (fun _ h=>h.elim) (fun _ h=>h) (fun _ h=>.inl h) (fun _ h=>h.elim) (fun _ _ h=>h.elim) (fun _ _ _ h=>h.elim) (aS9 _ _ _) (bn8 _ _ _) (fun i=>?_) (fun _ h=>h.elim)
 rw [bo5 hd']
 show ((if i = d then x else tm i) = tm i∧_)∨_
 by_cases hi : i = d
 ·right;intro m;rw [show T7 tm (some d) x i = if i = d then x else tm i from rfl,if_pos hi,if_pos hi];exact hx
 ·left;rw [if_neg hi,if_neg hi];exact ⟨rfl,rfl⟩
theorem St.new (h : St E nt ρ Zn tm bk a w) {b : Nat} (hb : bk b = .fresh) {x : l9} {v : Value} {obj : Obj} {w' : World} (hw : w' = w.alloc obj)
 (hB : ∀ ρ' bk',Mv (fz E Zn) (fz E Zn) w w' ρ ρ' bk bk'→R3 (fz E Zn) w' ρ' bk' v x) (hr : ∀ k,M9 v = some k→k = w.heap.size) (hD : isD x = false:=by rfl) : St E nt (fun i=>if i = b then v else ρ i) Zn tm (O0 bk [(b,x)]) a w':=by
 subst hw
 have hsz : (w.alloc obj).heap.size = w.heap.size + 1:=World.size_alloc w obj
 have hup : ∀ i,O0 bk [(b,x)] i = if i = b then x else bk i:=by
  intro i
  show (match (match Nat.beq i b with | true=>some x | false=>none) with | some y=>y | none=>bk i) = _
  cases he : Nat.beq i b with
  | true=>simp [D6 he]
  | false=>simp [ad0 he]
 refine h.upd (fun i=>i = b) rfl rfl rfl (by omega) (fun k hk _=>Array.getElem?_push_lt hk |>.trans (Array.getElem?_eq_getElem hk).symm) (fun i hi=>if_neg hi) (fun i hi=>by rw [hup,if_neg hi]) (fun i hi hne=>absurd (hi▸hb) hne) (fun _ h=>h) (fun _ h=>.inl h) (fun i hi m=>?_) (fun i k hi ho=>?_) (fun i j k hi hj _ _=>hi.trans hj.symm) rfl rfl (fun i=>.inl ⟨rfl,rfl⟩) (fun i hi=>by subst hi;rw [hb,hup,if_pos rfl];exact ⟨rfl,hD⟩)
 ·subst hi
  rw [hup,if_pos rfl,if_pos rfl]
  exact hB _ _ m
 ·subst hi
  have h2 : M9 (if i = i then v else ρ i) = some k:=ho.2
  rw [if_pos rfl] at h2
  have:=hr k h2
  subst this
  exact ⟨.inl (Nat.le_refl _),fun hz=>absurd (h.zn _ hz).1 (Nat.lt_irrefl _)⟩
end
end Go.Proofs.YtahmbcgolnplgaaGreatA
namespace Go.Proofs.YtahmbcgolnplgaaGreatA
open Go
section
variable (P : Program) (ops : Array Oper) (Q : Exit→Act→World→Prop) (E : C5) (nt : Nat)
def Snd (i : Nat) (s : S) (c : LA) (lk tl : List Nat) : Prop:=
 ∀ tm bk,aq1 s lk tl tm bk→∀ (K : Act→World→Prop) a w,Z7 E nt tm bk a w→(∀ a' w',Z7 E nt (T7 tm c.dst c.out) (O0 bk c.ups) a' w'→K a' w')→wpOp P ops Q i K a w
end
structure Nm where
 dst : Option Nat
 ids : List Nat
 lk : List Nat
 tl : List Nat
structure Rc where
 c : LA
 lk : List Nat
 tl : List Nat
def Rc.nm (r : Rc) : Nm:=⟨r.c.dst,r.c.ups.map (·.1),r.lk,r.tl⟩
def fT (D : Nat→Bool) (tm : Nat→AV) : Nat→List Rc→(Nat→AV)
 | _,[]=>tm
 | i,r :: rs=>fT D (if D i then T7 tm r.c.dst r.c.out else tm) (i + 1) rs
def fB (D : Nat→Bool) (bk : Nat→l9) : Nat→List Rc→(Nat→l9)
 | _,[]=>bk
 | i,r :: rs=>fB D (if D i then O0 bk r.c.ups else bk) (i + 1) rs
theorem ap2 {l : List (Nat×l9)} {b : Nat} (h : b ∉ l.map (·.1)) : W7 l b = none:=by
 induction l with
 | nil=>rfl
 | cons p r ih=>
  obtain ⟨j,x⟩:=p
  simp only [List.map_cons,List.mem_cons,not_or] at h
  show (match Nat.beq b j with | true=>some x | false=>W7 r b) = none
  cases he : Nat.beq b j with
  | true=>exact absurd (D6 he) h.1
  | false=>exact ih h.2
theorem bJ1 {l : List (Nat×l9)} {b : Nat} (h : b ∈ l.map (·.1)) : ∃ x,W7 l b = some x:=by
 induction l with
 | nil=>cases h
 | cons p r ih=>
  obtain ⟨j,x⟩:=p
  show ∃ y,(match Nat.beq b j with | true=>some x | false=>W7 r b) = some y
  cases he : Nat.beq b j with
  | true=>exact ⟨x,rfl⟩
  | false=>
   rcases List.mem_cons.1 h with h | h
   ·exact absurd h (ad0 he)
   ·exact ih h
theorem aP1 {D D' : Nat→Bool} {t : Nat} : ∀ (rs : List Rc) (i : Nat) (tm tm' : Nat→AV),tm t = tm' t→(∀ j r,rs[j]? = some r→r.c.dst = some t→D (i + j) = D' (i + j))→fT D tm i rs t = fT D' tm' i rs t
 | [],_,_,_,h,_=>h
 | r :: rs,i,tm,tm',h,hD=>by
  refine aP1 rs (i + 1) _ _ ?_ (fun j r' hr hd=>by have:=hD (j + 1) r' (by simpa using hr) hd;rwa [show i + (j + 1) = i + 1 + j by omega] at this)
  cases hd : r.c.dst with
  | none=>show (if D i then tm else tm) t = (if D' i then tm' else tm') t;simp [h]
  | some d=>
   by_cases e : d = t
   ·subst e
    have:=hD 0 r rfl hd
    simp only [Nat.add_zero] at this
    rw [this]
    cases D' i
    ·exact h
    ·show (if d = d then _ else _) = (if d = d then _ else _);simp
   ·have key : ∀ (b : Bool) (f : Nat→AV),(if b then T7 f (some d) r.c.out else f) t = f t:=by
     intro b f;cases b
     ·rfl
     ·show (if t = d then _ else f t) = _;rw [if_neg (Ne.symm e)]
    rw [key,key];exact h
theorem aR1 {D D' : Nat→Bool} {b : Nat} : ∀ (rs : List Rc) (i : Nat) (bk bk' : Nat→l9),bk b = bk' b→(∀ j r,rs[j]? = some r→b ∈ r.c.ups.map (·.1)→D (i + j) = D' (i + j))→fB D bk i rs b = fB D' bk' i rs b
 | [],_,_,_,h,_=>h
 | r :: rs,i,bk,bk',h,hD=>by
  refine aR1 rs (i + 1) _ _ ?_ (fun j r' hr hd=>by have:=hD (j + 1) r' (by simpa using hr) hd;rwa [show i + (j + 1) = i + 1 + j by omega] at this)
  by_cases hm : b ∈ r.c.ups.map (·.1)
  ·have:=hD 0 r rfl hm
   simp only [Nat.add_zero] at this
   rw [this]
   obtain ⟨x,hx⟩:=bJ1 hm
   cases D' i
   ·exact h
   ·show (match W7 r.c.ups b with | some x=>x | none=>bk b) = (match W7 r.c.ups b with | some x=>x | none=>bk' b);rw [hx]
  ·have key : ∀ (c : Bool) (f : Nat→l9),(if c then O0 f r.c.ups else f) b = f b:=by
    intro c f;cases c
    ·rfl
    ·show (match W7 r.c.ups b with | some x=>x | none=>f b) = f b;rw [ap2 hm]
   rw [key,key];exact h
theorem bs7 {D D' : Nat→Bool} {k : Nat} {r0 : Rc} : ∀ (rs : List Rc) (i : Nat) (tm : Nat→AV),i≤k→rs[k - i]? = some r0→D k = false→(∀ j,D' j = (D j || j == k)) →
 (∀ j r t,rs[j]? = some r→r.c.dst = some t→r0.c.dst = some t→k < i + j→D (i + j) = false)→fT D' tm i rs = T7 (fT D tm i rs) r0.c.dst r0.c.out
 | [],i,tm,_,h,_,_,_=>by simp at h
 | r :: rs,i,tm,hik,h,hk,hD,hw=>by
  rcases Nat.lt_or_eq_of_le hik with hlt | rfl
  ·have e : D' i = D i:=by rw [hD];have : (i == k) = false:=by simp;omega
                           rw [this,Bool.or_false]
   show fT D' (if D' i then _ else _) (i + 1) rs = T7 (fT D (if D i then _ else _) (i + 1) rs) _ _
   rw [e]
   exact bs7 rs (i + 1) _ hlt (by rw [show k - i = (k - (i + 1)) + 1 by omega] at h;simpa using h) hk hD (fun j r' t hr hd h0 hl=>by have:=hw (j + 1) r' t (by simpa using hr) hd h0 (by omega);rwa [show i + (j + 1) = i + 1 + j by omega] at this)
  ·simp only [Nat.sub_self,List.getElem?_cons_zero,Option.some.injEq] at h
   subst h
   have e : D' i = true:=by rw [hD];simp
   show fT D' (if D' i then _ else _) (i + 1) rs = T7 (fT D (if D i then _ else _) (i + 1) rs) _ _
   rw [e,hk]
   simp only [if_true,Bool.false_eq_true,if_false]
   have later : ∀ (rs : List Rc) (j0 : Nat) (f : Nat→AV),i < j0→(∀ j r' t,rs[j]? = some r'→r'.c.dst = some t→r.c.dst = some t→D (j0 + j) = false)→fT D' (T7 f r.c.dst r.c.out) j0 rs = T7 (fT D f j0 rs) r.c.dst r.c.out:=by
    intro rs
    induction rs with
    | nil=>intro j0 f _ _;rfl
    | cons r' rs ih=>
     intro j0 f hj hw'
     have e : D' j0 = D j0:=by rw [hD];have : (j0 == i) = false:=by simp;omega
                               rw [this,Bool.or_false]
     show fT D' (if D' j0 then _ else _) (j0 + 1) rs = T7 (fT D (if D j0 then _ else _) (j0 + 1) rs) _ _
     rw [e]
     have hw'' : ∀ j r'' t,rs[j]? = some r''→r''.c.dst = some t→r.c.dst = some t→D (j0 + 1 + j) = false:=fun j r'' t hr hd h0=>by have:=hw' (j + 1) r'' t (by simpa using hr) hd h0;rwa [show j0 + (j + 1) = j0 + 1 + j by omega] at this
     cases hDj : D j0 with
     | false=>simp only [Bool.false_eq_true,if_false];exact ih (j0 + 1) f (by omega) hw''
     | true=>
      simp only [if_true]
      have hne : ∀ t,r'.c.dst = some t→r.c.dst≠some t:=fun t h1 h2=>by have:=hw' 0 r' t rfl h1 h2;rw [Nat.add_zero,hDj] at this;cases this
      have comm : T7 (T7 f r.c.dst r.c.out) r'.c.dst r'.c.out = T7 (T7 f r'.c.dst r'.c.out) r.c.dst r.c.out:=by
       cases h1 : r'.c.dst with
       | none=>rfl
       | some t=>
        cases h2 : r.c.dst with
        | none=>rfl
        | some t'=>
         have : t≠t':=fun e=>hne t h1 (e▸h2)
         funext q
         show (if q = t then _ else if q = t' then _ else f q) = (if q = t' then _ else if q = t then _ else f q)
         by_cases q1 : q = t
         ·rw [if_pos q1,if_neg (by rw [q1];exact this),if_pos q1]
         ·rw [if_neg q1,if_neg q1]
      rw [comm]
      exact ih (j0 + 1) _ (by omega) hw''
   exact later rs (i + 1) tm (by omega) (fun j r' t hr hd h0=>by have:=hw (j + 1) r' t (by simpa using hr) hd h0 (by omega);rwa [show i + (j + 1) = i + 1 + j by omega] at this)
theorem bG7 {l m : List (Nat×l9)} (h : ∀ b,b ∈ l.map (·.1)→b ∉ m.map (·.1)) (bk : Nat→l9) : O0 (O0 bk l) m = O0 (O0 bk m) l:=by
 funext b
 unfold O0
 by_cases h1 : b ∈ l.map (·.1)
 ·rw [ap2 (h b h1)]
 ·rw [ap2 h1]
theorem bs3 {D D' : Nat→Bool} {k : Nat} {r0 : Rc} : ∀ (rs : List Rc) (i : Nat) (bk : Nat→l9),i≤k→rs[k - i]? = some r0→D k = false→(∀ j,D' j = (D j || j == k)) →
 (∀ j r b,rs[j]? = some r→b ∈ r.c.ups.map (·.1)→b ∈ r0.c.ups.map (·.1)→k < i + j→D (i + j) = false)→fB D' bk i rs = O0 (fB D bk i rs) r0.c.ups
 | [],i,tm,_,h,_,_,_=>by simp at h
 | r :: rs,i,tm,hik,h,hk,hD,hw=>by
  rcases Nat.lt_or_eq_of_le hik with hlt | rfl
  ·have e : D' i = D i:=by rw [hD];have : (i == k) = false:=by simp;omega
                           rw [this,Bool.or_false]
   show fB D' (if D' i then _ else _) (i + 1) rs = O0 (fB D (if D i then _ else _) (i + 1) rs) _
   rw [e]
   exact bs3 rs (i + 1) _ hlt (by rw [show k - i = (k - (i + 1)) + 1 by omega] at h;simpa using h) hk hD (fun j r' t hr hd h0 hl=>by have:=hw (j + 1) r' t (by simpa using hr) hd h0 (by omega);rwa [show i + (j + 1) = i + 1 + j by omega] at this)
  ·simp only [Nat.sub_self,List.getElem?_cons_zero,Option.some.injEq] at h
   subst h
   have e : D' i = true:=by rw [hD];simp
   show fB D' (if D' i then _ else _) (i + 1) rs = O0 (fB D (if D i then _ else _) (i + 1) rs) _
   rw [e,hk]
   simp only [if_true,Bool.false_eq_true,if_false]
   have later : ∀ (rs : List Rc) (j0 : Nat) (f : Nat→l9),i < j0→(∀ j r' b,rs[j]? = some r'→b ∈ r'.c.ups.map (·.1)→b ∈ r.c.ups.map (·.1)→D (j0 + j) = false)→fB D' (O0 f r.c.ups) j0 rs = O0 (fB D f j0 rs) r.c.ups:=by
    intro rs
    induction rs with
    | nil=>intro j0 f _ _;rfl
    | cons r' rs ih=>
     intro j0 f hj hw'
     have e : D' j0 = D j0:=by rw [hD];have : (j0 == i) = false:=by simp;omega
                               rw [this,Bool.or_false]
     show fB D' (if D' j0 then _ else _) (j0 + 1) rs = O0 (fB D (if D j0 then _ else _) (j0 + 1) rs) _
     rw [e]
     have hw'' : ∀ j r'' b,rs[j]? = some r''→b ∈ r''.c.ups.map (·.1)→b ∈ r.c.ups.map (·.1)→D (j0 + 1 + j) = false:=fun j r'' t hr hd h0=>by have:=hw' (j + 1) r'' t (by simpa using hr) hd h0;rwa [show j0 + (j + 1) = j0 + 1 + j by omega] at this
     cases hDj : D j0 with
     | false=>simp only [Bool.false_eq_true,if_false];exact ih (j0 + 1) f (by omega) hw''
     | true=>
      simp only [if_true]
      rw [bG7 (fun b h1 h2=>by have:=hw' 0 r' b rfl h2 h1;rw [Nat.add_zero,hDj] at this;cases this)]
      exact ih (j0 + 1) _ (by omega) hw''
   exact later rs (i + 1) tm (by omega) (fun j r' t hr hd h0=>by have:=hw (j + 1) r' t (by simpa using hr) hd h0 (by omega);rwa [show i + (j + 1) = i + 1 + j by omega] at this)
def aj1 (o : Oper) : List Nat:=(o.after.toList.filter (fun e=>Region.binds .any e)).map (·.on)
def aK4 (B : List Nat) : List Nat→Nat
 | []=>0
 | n :: r=>Nat.lor (Nat.lor (Nat.shiftLeft 1 n) (B.getD n 0)) (aK4 B r)
def ar8 : List (List Nat)→List Nat→List Nat
 | [],B=>B
 | n :: r,B=>ar8 r (B ++ [aK4 B n])
def bi9 (l m : List Nat) : Bool:=l.all (fun x=>m.all (fun y=>!(Nat.beq x y)))
def dl : Option Nat→List Nat
 | none=>[]
 | some d=>[d]
def ak0 (x y : Nm) : Bool:=bi9 (dl x.dst) (y.lk ++ dl y.dst) && bi9 (dl y.dst) x.lk && bi9 x.ids (y.tl ++ y.ids) && bi9 y.ids x.tl
def ba7 (B : List Nat) (j : Nat) (y : Nm) : Nat→List Nm→Bool
 | _,[]=>true
 | i,x :: r=>(Nat.ble j i || Nat.testBit (B.getD j 0) i || ak0 x y) && ba7 B j y (i + 1) r
def bw4 (B : List Nat) (ns : List Nm) : Nat→List Nm→Bool
 | _,[]=>true
 | j,y :: r=>ba7 B j y 0 ns && bw4 B ns (j + 1) r
def ak9 : Nat→List (List Nat)→Bool
 | _,[]=>true
 | i,n :: r=>n.all (fun j=>Nat.blt j i) && ak9 (i + 1) r
def chk (ops : Array Oper) (ns : List Nm) : Bool:=
 let N:=ops.toList.map aj1
 Nat.beq ns.length N.length && ak9 0 N && bw4 (ar8 N []) ns 0 ns
theorem be1 {B : List Nat} {i : Nat} : ∀ {ns : List Nat},(aK4 B ns).testBit i = true→∃ n ∈ ns,n = i∨(B.getD n 0).testBit i = true
 | [],h=>by simp [aK4] at h
 | n :: r,h=>by
  have h' : ((1 <<< n ||| B.getD n 0) ||| aK4 B r).testBit i = true:=h
  rw [Nat.testBit_or,Nat.testBit_or,Bool.or_eq_true,Bool.or_eq_true] at h'
  rcases h' with (h | h) | h
  ·rw [Nat.one_shiftLeft,Nat.testBit_two_pow] at h
   exact ⟨n,List.mem_cons_self,.inl (by simpa using h)⟩
  ·exact ⟨n,List.mem_cons_self,.inr h⟩
  ·obtain ⟨m,hm,h2⟩:=be1 h
   exact ⟨m,List.mem_cons_of_mem _ hm,h2⟩
theorem aU7 {α : Type} {l m : List α} {i : Nat} {d : α} (h : i < l.length) : (l ++ m).getD i d = l.getD i d:=by rw [List.getD_eq_getElem?_getD,List.getD_eq_getElem?_getD,List.getElem?_append_left h]
theorem bC5 {α : Type} {l m : List α} {i : Nat} {d : α} (h : l.length≤i) : (l ++ m).getD i d = m.getD (i - l.length) d:=by rw [List.getD_eq_getElem?_getD,List.getD_eq_getElem?_getD,List.getElem?_append_right h]
theorem bc7 : ∀ (N : List (List Nat)) (B : List Nat) (M : List (List Nat)),B.length = M.length→(∀ j i,((B.getD j 0).testBit i = true→∃ n ∈ M.getD j [],n = i∨(n < j∧(B.getD n 0).testBit i = true)))→ak9 B.length N = true →
 (∀ j i,(((ar8 N B).getD j 0).testBit i = true→∃ n ∈ (M ++ N).getD j [],n = i∨(n < j∧((ar8 N B).getD n 0).testBit i = true)))
 | [],B,M,hl,h,_=>by simpa [ar8] using h
 | n :: r,B,M,hl,h,he=>by
  have he' : (n.all (fun j=>Nat.blt j B.length) && ak9 (B.length + 1) r) = true:=he
  rw [Bool.and_eq_true] at he'
  have:=bc7 r (B ++ [aK4 B n]) (M ++ [n]) (by simp [hl]) (fun j i hb=>?_) (by simpa using he'.2)
  ·intro j i hb
   have:=this j i hb
   rw [List.append_assoc,List.singleton_append] at this
   exact this
  ·rcases Nat.lt_trichotomy j B.length with hj | hj | hj
   ·rw [aU7 hj] at hb
    obtain ⟨m,hm,h2⟩:=h j i hb
    refine ⟨m,by rw [aU7 (by omega)];exact hm,h2.imp id (fun h3=>⟨h3.1,?_⟩)⟩
    rw [aU7 (by omega)]
    exact h3.2
   ·subst hj
    rw [bC5 (Nat.le_refl _),Nat.sub_self] at hb
    obtain ⟨m,hm,h2⟩:=be1 (B:=B) (ns:=n) (by simpa using hb)
    have hmlt : m < B.length:=by
     have:=List.all_eq_true.1 he'.1 m hm
     exact Nat.blt_eq▸this
    refine ⟨m,by rw [hl,bC5 (Nat.le_refl _),Nat.sub_self];simpa using hm,h2.imp id (fun h3=>⟨hmlt,?_⟩)⟩
    rw [aU7 hmlt]
    exact h3
   ·rw [List.getD_eq_getElem?_getD,List.getElem?_eq_none (by simp;omega)] at hb
    simp at hb
theorem aW6 {N : List (List Nat)} {D : Nat→Bool} (hE : ak9 0 N = true) (hc : ∀ j,D j = true→∀ n ∈ N.getD j [],D n = true) : ∀ j,(∀ n ∈ N.getD j [],D n = true)→∀ i,((ar8 N []).getD j 0).testBit i = true→D i = true:=by
 have key:=bc7 N [] [] rfl (fun j i h=>by simp at h) (by simpa using hE)
 simp only [List.nil_append] at key
 intro j
 induction j using Nat.strongRecOn with
 | _ j ih=>
  intro hn i hb
  obtain ⟨n,hm,h⟩:=key j i hb
  have hD:=hn n hm
  rcases h with rfl | ⟨hlt,h2⟩
  ·exact hD
  ·exact ih n hlt (hc n hD) i h2
theorem bb9 (o : Oper) (p : Nat→Bool) : o.after.all (fun e=>!Region.binds .any e || p e.on) = (aj1 o).all p:=by
 unfold aj1
 rw [← Array.all_toList]
 induction o.after.toList with
 | nil=>rfl
 | cons e r ih=>
  rw [List.all_cons,ih,List.filter_cons]
  cases h : Region.binds .any e <;> simp
theorem be0 {B : List Nat} {j : Nat} {y : Nm} : ∀ {ns : List Nm} {i0 : Nat},ba7 B j y i0 ns = true→∀ (i : Nat) (x : Nm),ns[i]? = some x→i0 + i < j→(B.getD j 0).testBit (i0 + i) = false→ak0 x y = true
 | [],_,_,i,x,hx,_,_=>by simp at hx
 | z :: r,i0,h,i,x,hx,hlt,hb=>by
  have h' : ((Nat.ble j i0 || Nat.testBit (B.getD j 0) i0 || ak0 z y) && ba7 B j y (i0 + 1) r) = true:=h
  rw [Bool.and_eq_true] at h'
  cases i with
  | zero=>
   simp only [List.getElem?_cons_zero,Option.some.injEq] at hx
   subst hx
   have h1:=h'.1
   rw [Nat.add_zero] at hb hlt
   rw [Bool.or_eq_true,Bool.or_eq_true,hb] at h1
   rcases h1 with (h1 | h1) | h1
   ·exact absurd (Nat.le_of_ble_eq_true h1) (by omega)
   ·cases h1
   ·exact h1
  | succ i=>exact be0 h'.2 i x (by simpa using hx) (by omega) (by rwa [show i0 + 1 + i = i0 + (i + 1) by omega])
theorem bb1 {B : List Nat} {ns : List Nm} : ∀ {ms : List Nm} {j0 : Nat},bw4 B ns j0 ms = true→∀ (j : Nat) (y : Nm),ms[j]? = some y→ba7 B (j0 + j) y 0 ns = true
 | [],_,_,j,y,hy=>by simp at hy
 | z :: r,j0,h,j,y,hy=>by
  have h' : (ba7 B j0 z 0 ns && bw4 B ns (j0 + 1) r) = true:=h
  rw [Bool.and_eq_true] at h'
  cases j with
  | zero=>
   simp only [List.getElem?_cons_zero,Option.some.injEq] at hy
   subst hy
   exact h'.1
  | succ j=>have:=bb1 h'.2 j y (by simpa using hy);rwa [show j0 + 1 + j = j0 + (j + 1) by omega] at this
theorem am0 {l m : List Nat} (h : bi9 l m = true) {x : Nat} (hx : x ∈ l) (hy : x ∈ m) : False:=by
 have h1:=List.all_eq_true.1 h x hx
 have h2:=List.all_eq_true.1 h1 x hy
 simp at h2
theorem aG0 : ∀ {N : List (List Nat)} {i0 : Nat},ak9 i0 N = true→∀ (i n : Nat),n ∈ N.getD i []→n < i0 + i
 | [],_,_,i,n,h=>by simp at h
 | z :: r,i0,h,i,n,hn=>by
  have h' : (z.all (fun j=>Nat.blt j i0) && ak9 (i0 + 1) r) = true:=h
  rw [Bool.and_eq_true] at h'
  cases i with
  | zero=>
   have:=List.all_eq_true.1 h'.1 n (by simpa using hn)
   exact Nat.blt_eq▸this
  | succ i=>have:=aG0 h'.2 i n (by simpa using hn);omega
def sta (s0 : S) (rs : List Rc) (i : Nat) : S:=(rs.take i).foldl (fun s r=>s.app r.c) s0
theorem bT9 (rs : List Rc) : ∀ (s0 : S) (i : Nat),gT (rs.foldl (fun s r=>s.app r.c) s0).tm = fT (fun _=>true) (gT s0.tm) i rs:=by
 induction rs with
 | nil=>intro s0 i;rfl
 | cons r rs ih=>intro s0 i;rw [List.foldl_cons,ih (s0.app r.c) (i + 1)];unfold S.app;simp only;rw [bE8];first | done | rfl
theorem bV5 (rs : List Rc) : ∀ (s0 : S) (i : Nat),gB (rs.foldl (fun s r=>s.app r.c) s0).bk = fB (fun _=>true) (gB s0.bk) i rs:=by
 induction rs with
 | nil=>intro s0 i;rfl
 | cons r rs ih=>intro s0 i;rw [List.foldl_cons,ih (s0.app r.c) (i + 1)];unfold S.app;simp only;rw [ax7];first | done | rfl
theorem aY8 : ∀ (rs : List Rc) (i n : Nat) (tm : Nat→AV),n≤i→fT (fun j=>decide (j < n)) tm i rs = tm
 | [],_,_,_,_=>rfl
 | r :: rs,i,n,tm,h=>by
  show fT _ (if decide (i < n) = true then _ else tm) (i + 1) rs = tm
  rw [if_neg (by simpa using h)]
  exact aY8 rs (i + 1) n tm (by omega)
theorem aX6 : ∀ (rs : List Rc) (i n : Nat) (bk : Nat→l9),n≤i→fB (fun j=>decide (j < n)) bk i rs = bk
 | [],_,_,_,_=>rfl
 | r :: rs,i,n,bk,h=>by
  show fB _ (if decide (i < n) = true then _ else bk) (i + 1) rs = bk
  rw [if_neg (by simpa using h)]
  exact aX6 rs (i + 1) n bk (by omega)
theorem bs6 : ∀ (rs : List Rc) (i n : Nat) (tm : Nat→AV),fT (fun j=>decide (j < i + n)) tm i rs = fT (fun _=>true) tm i (rs.take n)
 | [],_,_,_=>by simp [fT]
 | r :: rs,i,0,tm=>by rw [aY8 _ _ _ _ (by omega)];rfl
 | r :: rs,i,n + 1,tm=>by
  show fT _ (if decide (i < i + (n + 1)) = true then _ else tm) (i + 1) rs = fT _ (if true = true then _ else tm) (i + 1) (rs.take n)
  rw [if_pos (by simp),if_pos rfl,← bs6 rs (i + 1) n]
  congr 1
  funext j
  rw [show i + (n + 1) = i + 1 + n by omega]
theorem bu4 : ∀ (rs : List Rc) (i n : Nat) (bk : Nat→l9),fB (fun j=>decide (j < i + n)) bk i rs = fB (fun _=>true) bk i (rs.take n)
 | [],_,_,_=>by simp [fB]
 | r :: rs,i,0,tm=>by rw [aX6 _ _ _ _ (by omega)];rfl
 | r :: rs,i,n + 1,tm=>by
  show fB _ (if decide (i < i + (n + 1)) = true then _ else tm) (i + 1) rs = fB _ (if true = true then _ else tm) (i + 1) (rs.take n)
  rw [if_pos (by simp),if_pos rfl,← bu4 rs (i + 1) n]
  congr 1
  funext j
  rw [show i + (n + 1) = i + 1 + n by omega]
theorem bO5 (s0 : S) (rs : List Rc) (n : Nat) : gT (sta s0 rs n).tm = fT (fun j=>decide (j < n)) (gT s0.tm) 0 rs:=by
 have:=bs6 rs 0 n (gT s0.tm)
 rw [Nat.zero_add] at this
 rw [this]
 exact bT9 _ _ _
theorem bO7 (s0 : S) (rs : List Rc) (n : Nat) : gB (sta s0 rs n).bk = fB (fun j=>decide (j < n)) (gB s0.bk) 0 rs:=by
 have:=bu4 rs 0 n (gB s0.bk)
 rw [Nat.zero_add] at this
 rw [this]
 exact bV5 _ _ _
theorem bB8 {rs : List Rc} {i : Nat} {r : Rc} (h : rs[i]? = some r) : (rs.map Rc.nm)[i]? = some r.nm:=by rw [List.getElem?_map,h];rfl
section
variable {P : Program} {ops : Array Oper} {Q : Exit→Act→World→Prop} {E : C5} {nt : Nat} {s0 : S} {rs : List Rc}
theorem bX5 (hch : ∀ i r,rs[i]? = some r→Snd P ops Q E nt i (sta s0 rs i) r.c r.lk r.tl) (hck : chk ops (rs.map Rc.nm) = true)
 (hQ : ∀ a w,Rel E nt (sta s0 rs rs.length) a w→Q .normal a w) : ∀ (fuel : Nat) (L : Array Bool),L.size = ops.size→(L.toList.filter (!·)).length≤fuel →
 (∀ j,L.getD j false = true→∀ n ∈ (ops.toList.map aj1).getD j [],L.getD n false = true) →
 ∀ a w,Z7 E nt (fT (fun j=>L.getD j false) (gT s0.tm) 0 rs) (fB (fun j=>L.getD j false) (gB s0.bk) 0 rs) a w→wpAny P .any ops Q fuel L a w:=by
 unfold chk at hck
 simp only [Bool.and_eq_true] at hck
 obtain ⟨⟨hlen,hE⟩,hJ⟩:=hck
 have hlen : rs.length = ops.size:=by have:=Nat.eq_of_beq_eq_true hlen;simpa using this
 have getN : ∀ i o,ops[i]? = some o→(ops.toList.map aj1).getD i [] = aj1 o:=by
  intro i o ho
  have ho' : ops.toList[i]? = some o:=by rw [Array.getElem?_toList];exact ho
  rw [List.getD_eq_getElem?_getD,List.getElem?_map,ho'];rfl
 have all_done : ∀ L : Array Bool,L.size = ops.size→(∀ j,j < ops.size→L.getD j false = true)→∀ a w,Z7 E nt (fT (fun j=>L.getD j false) (gT s0.tm) 0 rs) (fB (fun j=>L.getD j false) (gB s0.bk) 0 rs) a w→Q .normal a w:=by
  intro L hL hall a w h
  refine hQ a w ?_
  unfold Rel
  rw [bO5,bO7]
  have e1 : fT (fun j=>decide (j < rs.length)) (gT s0.tm) 0 rs = fT (fun j=>L.getD j false) (gT s0.tm) 0 rs:=by
   funext t
   refine aP1 rs 0 _ _ rfl (fun j r hr _=>?_)
   have hj:=(List.getElem?_eq_some_iff.1 hr).1
   rw [Nat.zero_add,hall j (by omega)];simpa using hj
  have e2 : fB (fun j=>decide (j < rs.length)) (gB s0.bk) 0 rs = fB (fun j=>L.getD j false) (gB s0.bk) 0 rs:=by
   funext t
   refine aR1 rs 0 _ _ rfl (fun j r hr _=>?_)
   have hj:=(List.getElem?_eq_some_iff.1 hr).1
   rw [Nat.zero_add,hall j (by omega)];simpa using hj
  rw [e1,e2]
  exact h
 have lget : ∀ (L : Array Bool) (j : Nat) (d : Bool),j < L.size→L.getD j d = L.getD j false:=by
  intro L j d hj
  rw [Array.getD_eq_getD_getElem?,Array.getD_eq_getD_getElem?,Array.getElem?_eq_getElem hj];rfl
 have none_ready : ∀ L : Array Bool,L.size = ops.size→Region.ready .any ops L = []→∀ j,j < ops.size→L.getD j false = true:=by
  intro L hL hr j
  induction j using Nat.strongRecOn with
  | _ j ih=>
   intro hj
   cases hc : L.getD j false with
   | true=>rfl
   | false=>
    exfalso
    have hm : j ∈ Region.ready .any ops L:=by
     unfold Region.ready
     rw [List.mem_filter,List.mem_range]
     refine ⟨hj,?_⟩
     rw [lget L j true (by omega),hc,Array.getElem?_eq_getElem hj]
     simp only [Bool.not_false,Bool.true_and,Option.map_some,Option.getD_some]
     rw [bb9 _ (fun n=>L.getD n false),List.all_eq_true]
     intro n hn
     have h1:=aG0 hE j n (by rw [getN j _ (Array.getElem?_eq_getElem hj)];exact hn)
     exact ih n (by omega) (by omega)
    rw [hr] at hm;cases hm
 have meet : ∀ {i j : Nat} {ri rj : Rc},rs[i]? = some ri→rs[j]? = some rj→i < j→((ar8 (ops.toList.map aj1) []).getD j 0).testBit i = false→ak0 ri.nm rj.nm = true:=by
  intro i j ri rj hi hj hlt hb
  have h1:=bb1 hJ j _ (bB8 hj)
  rw [Nat.zero_add] at h1
  exact be0 h1 i _ (bB8 hi) (by omega) (by rwa [Nat.zero_add])
 intro fuel
 induction fuel with
 | zero=>
  intro L hL hcnt hcl a w h
  have hall : ∀ j,j < ops.size→L.getD j false = true:=by
   intro j hj
   cases hc : L.getD j false with
   | true=>rfl
   | false=>
    exfalso
    have hm : false ∈ L.toList.filter (!·):=by
     rw [List.mem_filter]
     refine ⟨?_,rfl⟩
     rw [← hc,Array.getD_eq_getD_getElem?,Array.getElem?_eq_getElem (by omega)]
     exact Array.getElem_mem_toList (by omega)
    have:=List.length_pos_of_mem hm
    omega
  refine ⟨?_,all_done L hL hall a w h⟩
  unfold Region.ready
  rw [List.filter_eq_nil_iff]
  intro j hj
  have hj':=List.mem_range.1 hj
  rw [lget L j true (by omega),hall j hj']
  simp
 | succ fuel ih=>
  intro L hL hcnt hcl a w h
  refine ⟨fun hr=>all_done L hL (none_ready L hL hr) a w h,fun i hi=>?_⟩
  unfold Region.ready at hi
  rw [List.mem_filter,List.mem_range] at hi
  obtain ⟨hin,hi⟩:=hi
  rw [Bool.and_eq_true,lget L i true (by omega),Array.getElem?_eq_getElem hin] at hi
  simp only [Option.map_some,Option.getD_some] at hi
  obtain ⟨hiF,hdeps⟩:=hi
  have hiF : L.getD i false = false:=by simpa using hiF
  rw [bb9 _ (fun n=>L.getD n false),List.all_eq_true] at hdeps
  have hdeps' : ∀ n ∈ (ops.toList.map aj1).getD i [],L.getD n false = true:=by
   intro n hn
   rw [getN i _ (Array.getElem?_eq_getElem hin)] at hn
   exact hdeps n hn
  have hir : i < rs.length:=by omega
  obtain ⟨r,hr⟩ : ∃ r,rs[i]? = some r:=⟨_,List.getElem?_eq_getElem hir⟩
  have before : ∀ k,((ar8 (ops.toList.map aj1) []).getD i 0).testBit k = true→L.getD k false = true:=aW6 hE hcl i hdeps'
  have notAfter : ∀ k,L.getD k false = true→((ar8 (ops.toList.map aj1) []).getD k 0).testBit i = false:=by
   intro k hk
   cases hb : ((ar8 (ops.toList.map aj1) []).getD k 0).testBit i with
   | false=>rfl
   | true=>
    have:=aW6 (D:=fun j=>L.getD j false) hE hcl k (hcl k hk) i hb
    rw [hiF] at this;cases this
  have agree : aq1 (sta s0 rs i) r.lk r.tl (fT (fun j=>L.getD j false) (gT s0.tm) 0 rs) (fB (fun j=>L.getD j false) (gB s0.bk) 0 rs):=by
   refine ⟨fun t ht=>?_,fun b hb=>?_⟩
   ·rw [bO5]
    refine aP1 rs 0 _ _ rfl (fun k rk hk hd=>?_)
    rw [Nat.zero_add]
    rcases Nat.lt_trichotomy k i with hlt | rfl | hgt
    ·rw [show decide (k < i) = true by simpa using hlt]
     cases hb : ((ar8 (ops.toList.map aj1) []).getD i 0).testBit k with
     | true=>exact before k hb
     | false=>
      have h1:=meet hk hr hlt hb
      unfold ak0 at h1
      simp only [Bool.and_eq_true] at h1
      exact (am0 h1.1.1.1 (x:=t) (by show t ∈ dl rk.c.dst;rw [hd];exact List.mem_singleton.2 rfl) (List.mem_append_left _ ht)).elim
    ·rw [hiF];simp
    ·rw [show decide (k < i) = false by simp;omega]
     cases hc : L.getD k false with
     | false=>rfl
     | true=>
      have h1:=meet hr hk hgt (notAfter k hc)
      unfold ak0 at h1
      simp only [Bool.and_eq_true] at h1
      exact (am0 h1.1.1.2 (x:=t) (by show t ∈ dl rk.c.dst;rw [hd];exact List.mem_singleton.2 rfl) ht).elim
   ·rw [bO7]
    refine aR1 rs 0 _ _ rfl (fun k rk hk hd=>?_)
    rw [Nat.zero_add]
    rcases Nat.lt_trichotomy k i with hlt | rfl | hgt
    ·rw [show decide (k < i) = true by simpa using hlt]
     cases hbb : ((ar8 (ops.toList.map aj1) []).getD i 0).testBit k with
     | true=>exact before k hbb
     | false=>
      have h1:=meet hk hr hlt hbb
      unfold ak0 at h1
      simp only [Bool.and_eq_true] at h1
      exact (am0 h1.1.2 (x:=b) hd (List.mem_append_left _ hb)).elim
    ·rw [hiF];simp
    ·rw [show decide (k < i) = false by simp;omega]
     cases hc : L.getD k false with
     | false=>rfl
     | true=>
      have h1:=meet hr hk hgt (notAfter k hc)
      unfold ak0 at h1
      simp only [Bool.and_eq_true] at h1
      exact (am0 h1.2 (x:=b) hd hb).elim
  refine hch i r hr _ _ agree _ a w h (fun a' w' h'=>?_)
  have hset : ∀ j,(L.setIfInBounds i true).getD j false = (L.getD j false || j == i):=by
   intro j
   rw [Array.getD_eq_getD_getElem?,Array.getD_eq_getD_getElem?,Array.getElem?_setIfInBounds]
   by_cases e : i = j
   ·subst e;rw [if_pos rfl,if_pos (by omega)];simp
   ·rw [if_neg e,show (j == i) = false by simp;omega,Bool.or_false]
  refine ih (L.setIfInBounds i true) (by simpa using hL) ?_ ?_ a' w' ?_
  ·have hi' : i < L.toList.length:=by simpa [hL] using hin
   have : (L.setIfInBounds i true).toList = L.toList.set i true:=by simp
   rw [this]
   have hgen : ∀ (l : List Bool) (i : Nat),l[i]? = some false→((l.set i true).filter (!·)).length + 1≤(l.filter (!·)).length:=by
    intro l
    induction l with
    | nil=>intro i h;simp at h
    | cons x l ih'=>
     intro i h
     cases i with
     | zero=>simp only [List.getElem?_cons_zero,Option.some.injEq] at h;subst h;simp
     | succ i=>
      have:=ih' i (by simpa using h)
      cases x <;> simp <;> omega
   have:=hgen L.toList i (by
    rw [Array.getElem?_toList,Array.getElem?_eq_getElem (by omega)]
    rw [Array.getD_eq_getD_getElem?,Array.getElem?_eq_getElem (by omega)] at hiF
    rw [← hiF];rfl)
   omega
  ·intro j hj n hn
   rw [hset] at hj ⊢
   rw [Bool.or_eq_true] at hj ⊢
   rcases hj with hj | hj
   ·exact .inl (hcl j hj n hn)
   ·have : j = i:=by simpa using hj
    subst this
    exact .inl (hdeps' n hn)
  ·have e1 : fT (fun j=>(L.setIfInBounds i true).getD j false) (gT s0.tm) 0 rs = T7 (fT (fun j=>L.getD j false) (gT s0.tm) 0 rs) r.c.dst r.c.out:=by
    refine bs7 (k:=i) rs 0 _ (Nat.zero_le _) (by rw [Nat.sub_zero];exact hr) hiF hset (fun k rk t hk hd h0 hlt=>?_)
    rw [Nat.zero_add] at hlt ⊢
    cases hc : L.getD k false with
    | false=>rfl
    | true=>
     have h1:=meet hr hk hlt (notAfter k hc)
     unfold ak0 at h1
     simp only [Bool.and_eq_true] at h1
     exact (am0 h1.1.1.1 (x:=t) (by show t ∈ dl r.c.dst;rw [h0];exact List.mem_singleton.2 rfl) (List.mem_append_right _ (by show t ∈ dl rk.c.dst;rw [hd];exact List.mem_singleton.2 rfl))).elim
   have e2 : fB (fun j=>(L.setIfInBounds i true).getD j false) (gB s0.bk) 0 rs = O0 (fB (fun j=>L.getD j false) (gB s0.bk) 0 rs) r.c.ups:=by
    refine bs3 (k:=i) rs 0 _ (Nat.zero_le _) (by rw [Nat.sub_zero];exact hr) hiF hset (fun k rk b hk hd h0 hlt=>?_)
    rw [Nat.zero_add] at hlt ⊢
    cases hc : L.getD k false with
    | false=>rfl
    | true=>
     have h1:=meet hr hk hlt (notAfter k hc)
     unfold ak0 at h1
     simp only [Bool.and_eq_true] at h1
     exact (am0 h1.1.2 (x:=b) h0 (List.mem_append_right _ hd)).elim
   rw [e1,e2]
   exact h'
end
end Go.Proofs.YtahmbcgolnplgaaGreatA
namespace Go.Proofs.YtahmbcgolnplgaaGreatA
open Go
section
variable {P : Program} {ops : Array Oper} {Q : Exit→Act→World→Prop} {E : C5} {nt : Nat} {s s0 : S}
theorem Z7.drew {tm : Nat→AV} {bk : Nat→l9} {a : Act} {w w' : World} (h : Z7 E nt tm bk a w) (h1 : w'.heap = w.heap) (h2 : w'.os = w.os) (h3 : w'.tape = w.tape) (h4 : w'.output = w.output) : Z7 E nt tm bk a w':=by
 obtain ⟨ρ,Zn,h⟩:=h
 refine ⟨ρ,Zn,h.upd (fun _=>False) h2 h3 h4 (by rw [h1];exact Nat.le_refl _) (fun _ _ _=>by rw [h1]) (fun _ _=>rfl) (fun _ _=>rfl) (fun _ h=>h.elim) (fun _ h=>h) (fun _ h=>.inl h) (fun _ h=>h.elim) (fun _ _ h=>h.elim) (fun _ _ _ h=>h.elim) rfl rfl (fun i=>.inl ⟨rfl,rfl⟩) (fun _ h=>h.elim)⟩
structure Wst (P : Program) (ops : Array Oper) (Q : Exit→Act→World→Prop) (E : C5) (nt : Nat) (s0 : S) (rs : List Rc) (s : S) : Prop where
 snd : ∀ i r,rs[i]? = some r→Snd P ops Q E nt i (sta s0 rs i) r.c r.lk r.tl
 fin : s = sta s0 rs rs.length
def Wk (P : Program) (ops : Array Oper) (Q : Exit→Act→World→Prop) (E : C5) (nt : Nat) (s0 : S) (todo : List Oper) (s : S) (ns : List Nm) (G : Prop) : Prop:=
 ∀ rs,Wst P ops Q E nt s0 rs s→rs.map Rc.nm = ns.reverse→ops.toList.drop rs.length = todo∧rs.length + todo.length = ops.size→G
def m9 (E : C5) (nt : Nat) (s : S) (K : Act→World→Prop) : Prop:=∀ a w,Rel E nt s a w→K a w
abbrev AW (E : C5) (nt : Nat) (P : Program) (c : Code) (Q : Exit→Act→World→Prop) (s : S) : Prop:=m9 E nt s (Code.wp P c Q)
theorem ap8 {o : Oper} {todo : List Oper} {ns : List Nm} {G : Prop} (c : LA) (lk tl : List Nat) (h1 : ∀ i,ops[i]? = some o→Snd P ops Q E nt i s c lk tl)
 (h : Wk P ops Q E nt s0 todo (s.app c) (⟨c.dst,c.ups.map (·.1),lk,tl⟩ :: ns) G) : Wk P ops Q E nt s0 (o :: todo) s ns G:=by
 intro rs hw hn ⟨ht,hlen⟩
 have ho : ops[rs.length]? = some o:=by
  have:=List.getElem?_drop (xs:=ops.toList) (i:=rs.length) (j:=0)
  rw [ht] at this
  simpa using this.symm
 have htk : ∀ i,i≤rs.length→sta s0 (rs ++ [⟨c,lk,tl⟩]) i = sta s0 rs i:=by
  intro i hi
  unfold sta
  rw [List.take_append_of_le_length hi]
 refine h (rs ++ [⟨c,lk,tl⟩]) ⟨fun i r hr=>?_,?_⟩ (by simp [hn,Rc.nm]) ⟨by rw [List.length_append,List.length_singleton,← List.drop_drop,ht];rfl,by simp at hlen ⊢;omega⟩
 ·rcases Nat.lt_or_ge i rs.length with hi | hi
  ·rw [List.getElem?_append_left hi] at hr
   rw [htk i (by omega)]
   exact hw.snd i r hr
  ·have hi2:=(List.getElem?_eq_some_iff.1 hr).1
   have : i = rs.length:=by simp at hi2;omega
   subst this
   rw [List.getElem?_append_right (Nat.le_refl _),Nat.sub_self,List.getElem?_cons_zero] at hr
   injection hr with hr
   subst hr
   rw [htk _ (Nat.le_refl _),← hw.fin]
   exact h1 _ ho
 ·rw [hw.fin]
  unfold sta
  rw [List.take_length,List.take_length,List.foldl_append]
  rfl
theorem c9 {id : Nat} {l : List Oper} {draw : Bool} (h : Wk P l.toArray Q E nt s l s [] (AW E nt P (.region id l.toArray draw) Q s)) : AW E nt P (.region id l.toArray draw) Q s:=
 h [] ⟨fun i r h=>by simp at h,rfl⟩ rfl ⟨rfl,by simp⟩
theorem bj1 : ∀ (rs : List Rc) (pre : List Rc) (s : S),(∀ i r,(pre ++ rs)[i]? = some r→Snd P ops Q E nt i (sta s0 (pre ++ rs) i) r.c r.lk r.tl)→s = sta s0 (pre ++ rs) (pre ++ rs).length→m9 E nt s (Q .normal) →
 ∀ a w,Rel E nt (sta s0 (pre ++ rs) pre.length) a w→wpOps P ops Q (List.range' pre.length rs.length) a w
 | [],pre,s,_,hs,hQ,a,w,h=>by
  simp only [List.length_nil,List.range'_zero]
  rw [List.append_nil] at hs h
  exact hQ a w (hs▸h)
 | r :: rs,pre,s,hsnd,hs,hQ,a,w,h=>by
  rw [List.length_cons,List.range'_succ,wpOps_cons]
  have hr : (pre ++ r :: rs)[pre.length]? = some r:=by rw [List.getElem?_append_right (Nat.le_refl _),Nat.sub_self];rfl
  refine hsnd _ r hr _ _ ⟨fun _ _=>rfl,fun _ _=>rfl⟩ _ a w h (fun a' w' h'=>?_)
  have e : pre ++ r :: rs = (pre ++ [r]) ++ rs:=by simp
  have:=bj1 rs (pre ++ [r]) s (e▸hsnd) (e▸hs) hQ a' w' (by
   rw [← e]
   have : sta s0 (pre ++ r :: rs) (pre ++ [r]).length = (sta s0 (pre ++ r :: rs) pre.length).app r.c:=by
    unfold sta
    rw [e,List.take_left,List.foldl_append]
    rw [List.append_assoc,List.take_left]
    rfl
   rw [this]
   exact bQ2.2 h')
  simpa using this
theorem d9 {id : Nat} {ns : List Nm} (h : m9 E nt s (Q .normal)) : Wk P ops Q E nt s0 [] s ns (AW E nt P (.region id ops false) Q s0):=by
 intro rs hw hn ⟨ht,hlen⟩ a w hr
 refine wp_region ?_
 have:=bj1 (P:=P) (ops:=ops) (Q:=Q) (E:=E) (nt:=nt) (s0:=s0) rs [] s hw.snd hw.fin h a w (by simpa [sta] using hr)
 rw [List.range_eq_range',← (show rs.length = ops.size by simpa using hlen)]
 simpa using this
theorem br2 {id : Nat} {ns : List Nm} (hm : P.follows .mixedOrders = true) (hck : chk ops ns.reverse = true) (h : m9 E nt s (Q .normal)) : Wk P ops Q E nt s0 [] s ns (AW E nt P (.region id ops true) Q s0):=by
 intro rs hw hn ⟨ht,hlen⟩ a w hr
 refine wp_region_any hm ?_
 refine bX5 (rs:=rs) (s0:=s0) (E:=E) (nt:=nt) hw.snd (by rw [hn];exact hck) (fun a w hh=>h a w (hw.fin▸hh)) ops.size (Array.replicate ops.size false) (by simp) (by simp) (fun j hj=>?_) a _ ?_
 ·rw [Array.getD_eq_getD_getElem?,Array.getElem?_replicate] at hj
  split at hj <;> simp at hj
 ·have e : (fun j=>(Array.replicate ops.size false).getD j false) = (fun j=>decide (j < 0)):=by
   funext j
   rw [Array.getD_eq_getD_getElem?,Array.getElem?_replicate]
   split <;> simp
  rw [e,aY8 _ _ _ _ (Nat.le_refl _),aX6 _ _ _ _ (Nat.le_refl _)]
  exact Z7.drew hr rfl rfl rfl rfl
def Owp (P : Program) (Q : Exit→Act→World→Prop) (E : C5) (nt : Nat) (o : Oper) (s : S) (c : LA) (lk tl : List Nat) : Prop:=
 ∀ tm bk,aq1 s lk tl tm bk→∀ (K : Act→World→Prop) a w,Z7 E nt tm bk a w→(∀ a' w',Z7 E nt (T7 tm c.dst c.out) (O0 bk c.ups) a' w'→K a' w')→o.wp P a w K Q
theorem s8.owp {o : Oper} {c : LA} {lk tl : List Nat} (h : s8 P E nt o s c lk tl) : Owp P Q E nt o s c lk tl:=by
 intro tm bk hag K a w hr hK
 obtain ⟨n,v,w',h1,h2,h3⟩:=h tm bk hag a w hr
 unfold Oper.wp
 rw [h1]
 rcases h2 with rfl | ⟨rfl,rfl⟩
 ·exact hK _ _ h3
 ·exact hK _ _ h3
theorem bU6 {o : Oper} {i : Nat} (ho : ops[i]? = some o) (hg : o.guard = none) {c : LA} {lk tl : List Nat} (h : Owp P Q E nt o s c lk tl) : Snd P ops Q E nt i s c lk tl:=by
 intro tm bk hag K a w hr hK
 unfold wpOp
 simp only [ho]
 rw [if_pos (by simp [Region.wanted,hg])]
 exact .inl (h tm bk hag K a w hr hK)
theorem bW7 {o og : Oper} {i g d : Nat} {want : Bool} (ho : ops[i]? = some o) (hg : o.guard = some (g,want)) (hog : ops[g]? = some og) (hd : og.dst = some d) (hlt : Nat.blt d nt = true) {t : Bool} (hb : gT s.tm d = .lit (.bool t)) (htw : t = want) {c : LA} {lk tl : List Nat} (h : Owp P Q E nt o s c lk tl) : Snd P ops Q E nt i s c (d :: lk) tl:=by
 intro tm bk hag K a w hr hK
 subst htw
 have h1:=h tm bk ⟨fun t ht=>hag.1 t (List.mem_cons_of_mem _ ht),hag.2⟩ K a w hr hK
 have hy : yielded ops a.tmps g = some t:=by
  obtain ⟨ρ,Zn,hs⟩:=hr
  have h4:=hs.tmp d
  rw [hag.1 d List.mem_cons_self,hb] at h4
  have h5:=N1 h4
  have hd' : d < a.tmps.size:=by rw [hs.ntmps];exact Nat.blt_eq▸hlt
  unfold yielded
  rw [hog]
  simp only [Option.bind_some,hd]
  have : a.tmps[d]? = some (.bool t):=by
   rw [Array.getElem?_eq_getElem hd']
   unfold Act.eval at h5
   simp only [Array.getD_eq_getD_getElem?,Array.getElem?_eq_getElem hd',Option.getD_some] at h5
   rw [h5]
  rw [this]
 unfold wpOp
 simp only [ho]
 rw [if_pos (by simp [Region.wanted,hg,hy])]
 exact .inl h1
theorem bQ5 {o og : Oper} {i g d : Nat} {want t : Bool} {od : Option Nat} (ho : ops[i]? = some o) (hg : o.guard = some (g,want)) (hog : ops[g]? = some og) (hd : og.dst = some d) (hlt : Nat.blt d nt = true) (hb : gT s.tm d = .lit (.bool t)) (hne : t≠want) (hod : o.dst = od) (hlt' : ∀ e,od = some e→Nat.blt e nt = true) : Snd P ops Q E nt i s ⟨od,.junk,[]⟩ [d] []:=by
 intro tm bk hag K a w hr hK
 obtain ⟨ρ,Zn,hs⟩:=hr
 have hy : yielded ops a.tmps g = some t:=by
  have h4:=hs.tmp d
  rw [hag.1 d List.mem_cons_self,hb] at h4
  have h5:=N1 h4
  have hd' : d < a.tmps.size:=by rw [hs.ntmps];exact Nat.blt_eq▸hlt
  unfold yielded
  rw [hog]
  simp only [Option.bind_some,hd]
  have : a.tmps[d]? = some (.bool t):=by
   rw [Array.getElem?_eq_getElem hd']
   unfold Act.eval at h5
   simp only [Array.getD_eq_getD_getElem?,Array.getElem?_eq_getElem hd',Option.getD_some] at h5
   rw [h5]
  rw [this]
 unfold wpOp
 simp only [ho]
 rw [if_neg (by simp [Region.wanted,hg,hy,hne])]
 refine hK _ _ ⟨ρ,Zn,?_⟩
 rw [ba8]
 cases od with
 | none=>rw [hod];exact hs
 | some e=>rw [hod];exact hs.put (hlt' e rfl) (.inl rfl)
theorem j4 {id : Nat} {c : Code} (h : AW E nt P c (Exit.inBlock id Q) s) : AW E nt P (.block id c) Q s:=fun a w hr=>wp_block (h a w hr)
theorem i9 (h : m9 E nt s (Q .normal)) : AW E nt P .skip Q s:=fun a w hr=>wp_skip (h a w hr)
theorem m6 {id : Nat} (h : m9 E nt s (Q (.exit id))) : AW E nt P (.exit id) Q s:=fun a w hr=>wp_exit (h a w hr)
theorem f7 (h : m9 E nt s (Q .ret)) : AW E nt P .ret Q s:=fun a w hr=>wp_ret (h a w hr)
theorem n7 {id id' : Nat} (e : Nat.beq id id' = true) (h : m9 E nt s (Q .normal)) : m9 E nt s (Exit.inBlock id Q (.exit id')):=fun a w hr=>by
 show if id' = id then Q .normal a w else Q (.exit id') a w
 rw [if_pos (D6 e).symm];exact h a w hr
theorem aY4 {id id' : Nat} (e : Nat.beq id id' = false) (h : m9 E nt s (Q (.exit id'))) : m9 E nt s (Exit.inBlock id Q (.exit id')):=fun a w hr=>by
 show if id' = id then Q .normal a w else Q (.exit id') a w
 rw [if_neg (fun e'=>ad0 e e'.symm)];exact h a w hr
def opd (s : S) : Operand→AV
 | .tmp t=>gT s.tm t
 | .const v=>.lit v
 | .func f=>.fn f []
 | .global _=>.junk
def l8 : Operand→List Nat
 | .tmp t=>[t]
 | _=>[]
theorem St.opd {ρ : Nat→Value} {Zn : Nat→Prop} {tm : Nat→AV} {bk : Nat→l9} {a : Act} {w : World} (h : St E nt ρ Zn tm bk a w) (x : Operand) (hx : ∀ t ∈ l8 x,tm t = gT s.tm t) : G9 (fz E Zn) w ρ bk (opd s x) (a.eval x):=by
 cases x with
 | tmp t=>have:=h.tmp t;rw [hx t (List.mem_singleton.2 rfl)] at this;exact this
 | const v=>exact .inr (.inl rfl)
 | func f=>exact .inr (.inr (.inl (.inl (.inr ⟨f,[],[],rfl,rfl,Fa.nil⟩))))
 | global g=>exact .inl rfl
theorem bs5 {c : Operand} {x y : Code} {t : Bool} (hc : Go.Proofs.YtahmbcgolnplgaaGreatA.opd s c = .lit (.bool t)) (ht : t = true→AW E nt P x Q s) (hf : t = false→AW E nt P y Q s) : AW E nt P (.cond c x y) Q s:=by
 intro a w hr
 have he : a.eval c = .bool t:=by
  obtain ⟨ρ,Zn,hs⟩:=hr
  have:=St.opd (s:=s) hs c (fun _ _=>rfl)
  rw [hc] at this
  exact N1 this
 exact wp_cond_split he (fun h=>ht h a w hr) (fun h=>hf h a w hr)
theorem ah0 {c : Code} (I : Nat→Act→World→Prop) (k : Nat) (h0 : m9 E nt s (I k)) (hround : ∀ k a w,I k a w→c.wp P (Exit.then (fun a' w'=>∃ k',k' < k∧I k' a' w') Q) a w) : AW E nt P (.loop c) Q s:=by
 intro a w hr
 have ex : ∀ a w,(∃ k,I k a w)→∃ k,I k a w∧∀ k',I k' a w→k≤k':=by
  intro a w ⟨k,hk⟩
  induction k using Nat.strongRecOn with
  | _ k ih=>
   by_cases h : ∃ k',k' < k∧I k' a w
   ·obtain ⟨k',h1,h2⟩:=h
    exact ih k' h1 h2
   ·refine ⟨k,hk,fun k' hk'=>?_⟩
    rcases Nat.lt_or_ge k' k with hl | hl
    ·exact absurd ⟨k',hl,hk'⟩ h
    ·exact hl
 classical
 let μ : Act→World→Nat:=fun a w=>if h : ∃ k,I k a w then (ex a w h).choose else 0
 refine wp_loop (fun a w=>∃ k,I k a w) μ ⟨k,h0 a w hr⟩ (fun a w hI=>?_)
 have hm:=(ex a w hI).choose_spec
 have hμ : μ a w = (ex a w hI).choose:=dif_pos hI
 refine Code.wp_mono (fun e a' w' q=>?_) (hround _ a w hm.1)
 cases e with
 | normal=>
  obtain ⟨k',h1,h2⟩:=q
  refine ⟨⟨k',h2⟩,?_⟩
  have hm':=(ex a' w' ⟨k',h2⟩).choose_spec
  have hμ' : μ a' w' = (ex a' w' ⟨k',h2⟩).choose:=dif_pos ⟨k',h2⟩
  rw [hμ,hμ']
  exact Nat.lt_of_le_of_lt (hm'.2 k' h2) h1
 | _=>exact q
end
end Go.Proofs.YtahmbcgolnplgaaGreatA
namespace Go.Proofs.YtahmbcgolnplgaaGreatA
open Go
def au8 (m : Nat→Nat) : AV→AV
 | .box b o=>.box (m b) o
 | .row b=>.row (m b)
 | .sub b sz lo n=>.sub (m b) sz lo n
 | .elp b sz i j=>.elp (m b) sz i j
 | x=>x
def bI8 (m : Nat→Nat) : AV→AV
 | .agg l=>.agg (l.map (au8 m))
 | x=>au8 m x
def aG8 (m : Nat→Nat) : AV→AV
 | .fn f caps=>.fn f (caps.map (bI8 m))
 | x=>au8 m x
def aA9 (m : Nat→Nat) : AV→AV
 | .agg l=>.agg (l.map (aG8 m))
 | x=>aG8 m x
def aH3 (m : Nat→Nat) : AV→AV
 | .tup l=>.tup (l.map (aA9 m))
 | x=>aA9 m x
def rlf (m : Nat→Nat) : AV→AV
 | .agg l=>.agg (l.map (au8 m))
 | x=>au8 m x
def an0 (m : Nat→Nat) : l9→l9
 | .box t l=>.box t (l.map (aG8 m))
 | .drow true ds e sz xs=>.drow true ds e sz (xs.map (rlf m))
 | b=>b
theorem aU1 (m : Nat→Nat) (x : AV) : (rlf m x).leaves = x.leaves.map (au8 m):=by cases x <;> rfl
theorem Fa.map_left {α β γ : Type} {R : β→γ→Prop} {f : α→β} {l : List α} {m : List γ} : Fa R (l.map f) m↔Fa (fun a c=>R (f a) c) l m:=by
 constructor
 ·intro h
  refine ⟨by simpa using h.1,fun i a b ha hb=>h.2 i (f a) b (by rw [List.getElem?_map,ha];rfl) hb⟩
 ·intro h
  refine ⟨by simpa using h.1,fun i a b ha hb=>?_⟩
  rw [List.getElem?_map] at ha
  obtain ⟨x,hx,rfl⟩:=Option.map_eq_some_iff.1 ha
  exact h.2 i x b hx hb
section
variable {Zf : Fl→Nat→Prop} {w : World} {ρ : Nat→Value} {bk bk' : Nat→l9} {m : Nat→Nat}
theorem I9.ren (hr : ∀ b,bk (m b)≠.fresh→bk' b≠.fresh) {x : AV} {u : Value} (h : I9 Zf w ρ bk (au8 m x) u) : I9 Zf w (fun b=>ρ (m b)) bk' x u:=by
 cases x with
 | box b o=>obtain ⟨h1,h2⟩:=h;exact ⟨hr b h1,h2⟩
 | row b=>obtain ⟨h1,h2⟩:=h;exact ⟨hr b h1,h2⟩
 | sub b sz lo n=>obtain ⟨h1,h2⟩:=h;exact ⟨hr b h1,h2⟩
 | elp b sz i j=>obtain ⟨h1,h2⟩:=h;exact ⟨hr b h1,h2⟩
 | _=>exact h
theorem ad9.ren (hr : ∀ b,bk (m b)≠.fresh→bk' b≠.fresh) {x : AV} {u : Value} (h : ad9 Zf w ρ bk (bI8 m x) u) : ad9 Zf w (fun b=>ρ (m b)) bk' x u:=by
 by_cases hx : ∃ l,x = .agg l
 ·obtain ⟨l,rfl⟩:=hx
  rcases h with h | ⟨l',cs,h1,h2,h3⟩
  ·exact h.elim
  ·injection h1 with h1
   subst h1
   exact .inr ⟨l,cs,rfl,h2,(Fa.map_left.1 h3).imp fun _ _ h=>I9.ren hr h⟩
 ·have e : bI8 m x = au8 m x:=by cases x <;> first | rfl | exact absurd ⟨_,rfl⟩ hx
  rw [e] at h
  rcases h with h | ⟨l',cs,h1,h2,h3⟩
  ·exact .inl (I9.ren hr h)
  ·exact absurd h1 (by cases x <;> first | (intro h;cases h;done) | (intro _;exact hx ⟨_,rfl⟩))
theorem L6.ren (hr : ∀ b,bk (m b)≠.fresh→bk' b≠.fresh) {x : AV} {u : Value} (h : L6 Zf w ρ bk (aG8 m x) u) : L6 Zf w (fun b=>ρ (m b)) bk' x u:=by
 by_cases hx : ∃ f l,x = .fn f l
 ·obtain ⟨f,l,rfl⟩:=hx
  rcases h with h | ⟨f',l',cs,h1,h2,h3⟩
  ·exact h.elim
  ·injection h1 with h1 h4
   subst h1;subst h4
   exact .inr ⟨f,l,cs,rfl,h2,(Fa.map_left.1 h3).imp fun _ _ h=>ad9.ren hr h⟩
 ·have e : aG8 m x = au8 m x:=by cases x <;> first | rfl | exact absurd ⟨_,_,rfl⟩ hx
  rw [e] at h
  rcases h with h | ⟨f',l',cs,h1,h2,h3⟩
  ·exact .inl (I9.ren hr h)
  ·exact absurd h1 (by cases x <;> first | (intro h;cases h;done) | (intro _;exact hx ⟨_,_,rfl⟩))
theorem ab0.ren (hr : ∀ b,bk (m b)≠.fresh→bk' b≠.fresh) {x : AV} {u : Value} (h : ab0 Zf w ρ bk (aA9 m x) u) : ab0 Zf w (fun b=>ρ (m b)) bk' x u:=by
 by_cases hx : ∃ l,x = .agg l
 ·obtain ⟨l,rfl⟩:=hx
  rcases h with h | ⟨l',cs,h1,h2,h3⟩
  ·rcases h with h | ⟨_,_,_,h,_⟩
   ·exact h.elim
   ·cases h
  ·injection h1 with h1
   subst h1
   exact .inr ⟨l,cs,rfl,h2,(Fa.map_left.1 h3).imp fun _ _ h=>L6.ren hr h⟩
 ·have e : aA9 m x = aG8 m x:=by cases x <;> first | rfl | exact absurd ⟨_,rfl⟩ hx
  rw [e] at h
  rcases h with h | ⟨l',cs,h1,h2,h3⟩
  ·exact .inl (L6.ren hr h)
  ·exact absurd h1 (by cases x <;> first | (intro h;cases h;done) | (intro _;exact hx ⟨_,rfl⟩))
theorem G9.ren (hr : ∀ b,bk (m b)≠.fresh→bk' b≠.fresh) {x : AV} {u : Value} (h : G9 Zf w ρ bk (aH3 m x) u) : G9 Zf w (fun b=>ρ (m b)) bk' x u:=by
 by_cases hx : ∃ l,x = .tup l
 ·obtain ⟨l,rfl⟩:=hx
  obtain ⟨cs,h2,h3⟩:=br9 h
  exact .inr (.inr (.inr ⟨l,cs,rfl,h2,(Fa.map_left.1 h3).imp fun _ _ h=>ab0.ren hr h⟩))
 ·have e : aH3 m x = aA9 m x:=by cases x <;> first | rfl | exact absurd ⟨_,rfl⟩ hx
  rw [e] at h
  rcases h with h | h | h | ⟨l',cs,h1,h2,h3⟩
  ·exact .inl (by cases x <;> first | rfl | cases h)
  ·refine .inr (.inl ?_)
   cases x <;> first | exact h | cases h
  ·exact .inr (.inr (.inl (ab0.ren hr h)))
  ·exact absurd h1 (by cases x <;> first | (intro h;cases h;done) | (intro _;exact hx ⟨_,rfl⟩))
theorem R3.ren (hr : ∀ b,bk (m b)≠.fresh→bk' b≠.fresh) {v : Value} {x : l9} (h : R3 Zf w ρ bk v (an0 m x)) : R3 Zf w (fun b=>ρ (m b)) bk' v x:=by
 cases x with
 | box t l=>
  obtain ⟨g,cs,h1,h2,h3⟩:=h
  exact ⟨g,cs,h1,h2,(Fa.map_left.1 h3).imp fun _ _ h=>L6.ren hr h⟩
 | drow op ds e sz xs=>trivial
 | _=>exact h
theorem aP3 (m : Nat→Nat) (x : l9) : ad3 (an0 m x) = ad3 x:=by
 cases x with
 | drow op ds e sz xs=>cases op <;> rfl
 | _=>rfl
theorem aK1 (m : Nat→Nat) (x : l9) : isD (an0 m x) = isD x:=by
 cases x with
 | drow op ds e sz xs=>cases op <;> rfl
 | _=>rfl
theorem ai6.ren (hr : ∀ b,bk (m b)≠.fresh→bk' b≠.fresh) {t : Tr} {op : Bool} {ds : List Ds} {e sz : Nat} {v : Value} {xs ys : List AV} (h : ai6 Zf w ρ bk op ds t e sz v ys) (hy : an0 m (.drow op ds e sz xs) = .drow op ds e sz ys) : ai6 Zf w (fun b=>ρ (m b)) bk' op ds t e sz v xs:=by
 obtain ⟨h0,inner,ho,hl,hc⟩:=h
 cases op with
 | false=>
  injection hy with _ _ _ _ hy
  subst hy
  refine ⟨h0,inner,ho,hl,fun j x i lv hj hi=>?_⟩
  obtain ⟨u,hu,hv⟩:=hc j x i lv hj hi
  refine ⟨u,hu,?_⟩
  rcases hv with hv | ⟨c,h1,_⟩
  ·exact .inl hv
  ·cases h1
 | true=>
  injection hy with _ _ _ _ hy
  subst hy
  rw [List.length_map] at ho
  refine ⟨h0,inner,ho,fun j x hj=>?_,fun j x i lv hj hi=>?_⟩
  ·have:=hl j (rlf m x) (by rw [List.getElem?_map,hj];rfl)
   rwa [aU1,List.length_map] at this
  ·obtain ⟨u,hu,hv⟩:=hc j (rlf m x) i (au8 m lv) (by rw [List.getElem?_map,hj];rfl) (by rw [aU1,List.getElem?_map,hi];rfl)
   refine ⟨u,hu,?_⟩
   rcases hv with hv | ⟨c,h1,h2,h3,h4,h5⟩
   ·left
    generalize ds.getD i .v = q at hv ⊢
    cases lv with
    | row b=>cases hv with | v hv=>cases hv
    | box b o=>cases hv with | v hv=>cases hv
    | sub b sz lo n=>cases hv with | v hv=>cases hv
    | elp b sz i j=>cases hv with | v hv=>cases hv
    | _=>exact hv
   ·right
    cases lv with
    | row b=>
     injection h2 with h2
     subst h2
     exact ⟨b,rfl,rfl,hr b h3,h4,h5⟩
    | _=>cases h2
end
def lkN (far : Nat) : List (Nat×Nat)→Nat→Nat
 | [],_=>far
 | (i,j) :: r,b=>match Nat.beq b i with
  | true=>j
  | false=>lkN far r b
def Q0 : List Nat→Bool
 | []=>true
 | x :: r=>r.all (fun y=>!(Nat.beq x y)) && Q0 r
theorem at7 {far : Nat} {m : List (Nat×Nat)} {b : Nat} : (lkN far m b = far∧b ∉ m.map (·.1))∨(b,lkN far m b) ∈ m:=by
 induction m with
 | nil=>exact .inl ⟨rfl,by simp⟩
 | cons p r ih=>
  obtain ⟨i,j⟩:=p
  show ((match Nat.beq b i with | true=>j | false=>lkN far r b) = far∧_)∨(b,(match Nat.beq b i with | true=>j | false=>lkN far r b)) ∈ _
  cases h : Nat.beq b i with
  | true=>right;rw [D6 h];exact List.mem_cons_self
  | false=>
   rcases ih with ⟨h1,h2⟩ | h1
   ·left;refine ⟨h1,?_⟩;simp only [List.map_cons,List.mem_cons,not_or];exact ⟨ad0 h,h2⟩
   ·right;exact List.mem_cons_of_mem _ h1
theorem by3 {m : List (Nat×Nat)} (h : Q0 (m.map (·.2)) = true) {b b' j : Nat} (h1 : (b,j) ∈ m) (h2 : (b',j) ∈ m) : b = b':=by
 induction m with
 | nil=>cases h1
 | cons p r ih=>
  obtain ⟨i,k⟩:=p
  have h' : ((r.map (·.2)).all (fun y=>!(Nat.beq k y)) && Q0 (r.map (·.2))) = true:=h
  rw [Bool.and_eq_true] at h'
  have nk : ∀ b,(b,k) ∈ r→False:=fun b hb=>by
   have:=List.all_eq_true.1 h'.1 k (List.mem_map.2 ⟨_,hb,rfl⟩)
   simp at this
  rcases List.mem_cons.1 h1 with e1 | e1 <;> rcases List.mem_cons.1 h2 with e2 | e2
  ·injection e1 with a _;injection e2 with b _;exact a.trans b.symm
  ·injection e1 with _ a;subst a;exact (nk _ e2).elim
  ·injection e2 with _ a;subst a;exact (nk _ e1).elim
  ·exact ih h'.2 e1 e2
def aV8 (s : S) (m : Nat→Nat) : List (Nat×AV)→Prop
 | []=>True
 | (i,x) :: r=>gT s.tm i = aH3 m x∧aV8 s m r
def as8 (s : S) (m : Nat→Nat) : List (Nat×l9)→Prop
 | []=>True
 | (i,x) :: r=>gB s.bk (m i) = an0 m x∧as8 s m r
theorem bc3 {s : S} {m : Nat→Nat} : ∀ {l : List (Nat×AV)},aV8 s m l→∀ i,gT l i = .junk∨gT s.tm i = aH3 m (gT l i)
 | [],_,i=>.inl rfl
 | (j,x) :: r,h,i=>by
  show (match Nat.beq i j with | true=>x | false=>gT r i) = .junk∨gT s.tm i = aH3 m (match Nat.beq i j with | true=>x | false=>gT r i)
  cases he : Nat.beq i j with
  | true=>right;rw [D6 he];exact h.1
  | false=>exact bc3 h.2 i
theorem al4 {s : S} {m : Nat→Nat} : ∀ {l : List (Nat×l9)},as8 s m l→∀ i,(gB l i = .fresh∧i ∉ l.map (·.1))∨(i ∈ l.map (·.1)∧gB s.bk (m i) = an0 m (gB l i))
 | [],_,i=>.inl ⟨rfl,by simp⟩
 | (j,x) :: r,h,i=>by
  cases he : Nat.beq i j with
  | true=>
   right
   have:=D6 he
   subst this
   have : gB ((i,x) :: r) i = x:=by unfold gB;show (match (match Nat.beq i i with | true=>some x | false=>W7 r i) with | some b=>b | none=>l9.fresh) = x;rw [he]
   rw [this]
   exact ⟨by simp,h.1⟩
  | false=>
   have : gB ((j,x) :: r) i = gB r i:=by simp only [gB,W7,he]
   rw [this]
   rcases al4 h.2 i with ⟨h1,h2⟩ | ⟨h1,h2⟩
   ·left;refine ⟨h1,?_⟩;simp only [List.map_cons,List.mem_cons,not_or];exact ⟨ad0 he,h2⟩
   ·right;exact ⟨List.mem_cons_of_mem _ h1,h2⟩
def X4 : List (Nat×l9)→Bool
 | []=>true
 | (_,.fresh) :: _=>false
 | _ :: r=>X4 r
theorem aj7 : ∀ {l : List (Nat×l9)},X4 l = true→∀ i,i ∈ l.map (·.1)→gB l i≠.fresh
 | [],_,i,h=>by cases h
 | (j,x) :: r,h,i,hi=>by
  have hx : x≠.fresh∧X4 r = true:=by cases x <;> first | exact ⟨by simp,h⟩ | cases h
  cases he : Nat.beq i j with
  | true=>
   have : gB ((j,x) :: r) i = x:=by unfold gB;show (match (match Nat.beq i j with | true=>some x | false=>W7 r i) with | some b=>b | none=>l9.fresh) = x;rw [he]
   rw [this];exact hx.1
  | false=>
   have : gB ((j,x) :: r) i = gB r i:=by simp only [gB,W7,he]
   rw [this]
   refine aj7 hx.2 i ?_
   rcases List.mem_cons.1 hi with hi | hi
   ·exact absurd hi (ad0 he)
   ·exact hi
def idN : Nat→List (Nat×Nat)→Bool
 | 0,_=>true
 | n + 1,m=>Nat.beq (lkN (n + 1) m n) n && idN n m
theorem aX3 : ∀ {n : Nat} {m : List (Nat×Nat)},idN n m = true→∀ b,b < n→(b,b) ∈ m
 | 0,_,_,b,h=>by omega
 | n + 1,m,h,b,hb=>by
  have h' : (Nat.beq (lkN (n + 1) m n) n && idN n m) = true:=h
  rw [Bool.and_eq_true] at h'
  by_cases e : b = n
  ·subst e
   have h1:=D6 h'.1
   rcases at7 (far:=b + 1) (m:=m) (b:=b) with ⟨h2,_⟩ | h2
   ·omega
   ·rwa [h1] at h2
  ·exact aX3 h'.2 b (by omega)
section
variable {E : C5} {nt : Nat} {ρ : Nat→Value} {Zn : Nat→Prop} {a : Act} {w : World} {s s' : S}
theorem St.weak {m : List (Nat×Nat)} {far : Nat} (h : St E nt ρ Zn (gT s.tm) (gB s.bk) a w) (hfar : gB s.bk far = .fresh) (hdom : m.map (·.1) = s'.bk.map (·.1)) (hnd : Q0 (m.map (·.2)) = true) (hT : aV8 s (lkN far m) s'.tm) (hB : as8 s (lkN far m) s'.bk) (hnf : X4 s'.bk = true)
 (hfix : ∀ b v,E.ρ0 b = some v→(b,b) ∈ m) (hndk : Q0 (m.map (·.1)) = true) : St E nt (fun b=>ρ (lkN far m b)) Zn (gT s'.tm) (gB s'.bk) a w:=by
 have hr : ∀ b,gB s.bk (lkN far m b)≠.fresh→gB s'.bk b≠.fresh:=by
  intro b hb
  rcases at7 (far:=far) (m:=m) (b:=b) with ⟨h1,_⟩ | h1
  ·rw [h1] at hb;exact absurd hfar hb
  ·exact aj7 hnf b (by rw [← hdom];exact List.mem_map.2 ⟨_,h1,rfl⟩)
 have own : ∀ b k,O9 (fun b=>ρ (lkN far m b)) (gB s'.bk) b k→O9 ρ (gB s.bk) (lkN far m b) k∧(b,lkN far m b) ∈ m:=by
  intro b k ho
  rcases al4 hB b with ⟨h1,_⟩ | ⟨h1,h2⟩
  ·unfold O9 at ho;rw [h1] at ho;cases ho.1
  ·refine ⟨⟨?_,ho.2⟩,?_⟩
   ·rw [h2,aP3];exact ho.1
   ·rcases at7 (far:=far) (m:=m) (b:=b) with ⟨_,h3⟩ | h3
    ·rw [hdom] at h3;exact absurd h1 h3
    ·exact h3
 obtain ⟨ω,d⟩:=h.deep
 have ownD : ∀ b k,K4 (fun b=>ρ (lkN far m b)) (fun b=>ω (lkN far m b)) (gB s'.bk) b k→K4 ρ ω (gB s.bk) (lkN far m b) k∧(b,lkN far m b) ∈ m:=by
  intro b k ho
  rcases al4 hB b with ⟨h1,_⟩ | ⟨h1,h2⟩
  ·unfold K4 at ho;rw [h1] at ho;cases ho.1
  ·refine ⟨⟨by rw [h2,aP3];exact ho.1,?_⟩,?_⟩
   ·rcases ho.2 with h3 | ⟨h3,h4⟩
    ·exact .inl h3
    ·exact .inr ⟨by rw [h2,aK1];exact h3,h4⟩
   ·rcases at7 (far:=far) (m:=m) (b:=b) with ⟨_,h3⟩ | h3
    ·rw [hdom] at h3;exact absurd h1 h3
    ·exact h3
 refine ⟨h.os,h.tape,h.output,h.size,h.z0,h.keep,h.zi,h.zy,h.zn,fun b v hv=>?_,fun b=>?_,⟨fun b=>ω (lkN far m b),fun b op ds e sz xs hbk=>?_,fun b hbk=>?_,fun b k ho=>d.lt _ k (ownD b k ho).1,fun b k ho=>d.out _ k (ownD b k ho).1,fun b b' k ho ho'=>?_⟩,h.defers,h.ntmps,fun i=>?_⟩
 ·have h1:=hfix b v hv
  have h2 : lkN far m b = b:=by
   rcases at7 (far:=far) (m:=m) (b:=b) with ⟨_,h3⟩ | h3
   ·exact absurd (List.mem_map.2 ⟨_,h1,rfl⟩) h3
   ·
    have key : ∀ {l : List (Nat×Nat)},Q0 (l.map (·.1)) = true→∀ {x y z : Nat},(x,y) ∈ l→(x,z) ∈ l→y = z:=by
     intro l
     induction l with
     | nil=>intro _ x y z h;cases h
     | cons p r ih=>
      intro hn x y z h1 h2
      obtain ⟨i,k⟩:=p
      have h' : ((r.map (·.1)).all (fun y=>!(Nat.beq i y)) && Q0 (r.map (·.1))) = true:=hn
      rw [Bool.and_eq_true] at h'
      have nk : ∀ b,(i,b) ∈ r→False:=fun b hb=>by
       have:=List.all_eq_true.1 h'.1 i (List.mem_map.2 ⟨_,hb,rfl⟩)
       simp at this
      rcases List.mem_cons.1 h1 with e1 | e1 <;> rcases List.mem_cons.1 h2 with e2 | e2
      ·injection e1 with _ a;injection e2 with _ b;exact a.trans b.symm
      ·injection e1 with a _;subst a;exact (nk _ e2).elim
      ·injection e2 with a _;subst a;exact (nk _ e1).elim
      ·exact ih h'.2 e1 e2
    exact key hndk h3 h1
  have h3:=h.fix b v hv
  refine ⟨hr b (by rw [h2];exact h3.1),?_⟩
  show ρ (lkN far m b) = v
  rw [h2];exact h3.2
 ·rcases al4 hB b with ⟨h1,_⟩ | ⟨_,h2⟩
  ·rw [h1];trivial
  ·have:=h.blk (lkN far m b)
   rw [h2] at this
   exact R3.ren hr this
 ·rcases al4 hB b with ⟨h1,_⟩ | ⟨_,h2⟩
  ·rw [h1] at hbk;cases hbk
  ·rw [hbk] at h2
   obtain ⟨ys,hy⟩ : ∃ ys,an0 (lkN far m) (.drow op ds e sz xs) = .drow op ds e sz ys:=by cases op <;> exact ⟨_,rfl⟩
   exact ai6.ren hr (d.row _ op ds e sz ys (h2.trans hy)) hy
 ·rcases al4 hB b with ⟨h1,_⟩ | ⟨_,h2⟩
  ·rw [h1] at hbk;cases hbk
  ·exact d.tree _ (by rw [h2,aK1];exact hbk)
 ·have h1:=ownD b k ho
  have h2:=ownD b' k ho'
  have h3:=d.sep _ _ k h1.1 h2.1
  refine by3 hnd h1.2 ?_
  rw [h3]
  exact h2.2
 ·rcases bc3 hT i with h1 | h1
  ·rw [h1];exact .inl rfl
  ·have:=h.tmp i
   rw [h1] at this
   exact G9.ren hr this
end
section
variable {P : Program} {E : C5} {nt : Nat} {s s' : S} {K : Act→World→Prop}
theorem bS2 {ni : Nat} (hE : ∀ b v,E.ρ0 b = some v→b < ni) (m : List (Nat×Nat)) (far : Nat) (hT : aV8 s (lkN far m) s'.tm) (hB : as8 s (lkN far m) s'.bk) (h : m9 E nt s' K)
 (hfar : gB s.bk far = .fresh:=by rfl) (hdom : m.map (·.1) = s'.bk.map (·.1):=by rfl) (hnd : Q0 (m.map (·.2)) = true:=by rfl) (hnf : X4 s'.bk = true:=by rfl) (hid : idN ni m = true:=by rfl) (hndk : Q0 (m.map (·.1)) = true:=by rfl) : m9 E nt s K:=by
 intro a w ⟨ρ,Zn,hs⟩
 exact h a w ⟨_,Zn,hs.weak hfar hdom hnd hT hB hnf (fun b v hv=>aX3 hid b (hE b v hv)) hndk⟩
end
def aE5 : Nat→List AV→List (Nat×AV)
 | _,[]=>[]
 | i,x :: r=>(i,x) :: aE5 (i + 1) r
theorem bt1 : ∀ (l : List AV) (i j : Nat),gT (aE5 i l) j = if i≤j then (l[j - i]?).getD .junk else .junk
 | [],i,j=>by simp [aE5,gT]
 | x :: r,i,j=>by
  show (match Nat.beq j i with | true=>x | false=>gT (aE5 (i + 1) r) j) = _
  cases h : Nat.beq j i with
  | true=>have:=D6 h;subst this;simp
  | false=>
   have hne:=ad0 h
   show gT (aE5 (i + 1) r) j = _
   rw [bt1 r (i + 1) j]
   by_cases hle : i≤j
   ·rw [if_pos (by omega),if_pos hle,show j - i = (j - (i + 1)) + 1 by omega,List.getElem?_cons_succ]
   ·rw [if_neg (by omega),if_neg hle]
def Hp (E : C5) (ρ : Nat→Value) (Zn : Nat→Prop) (bk : Nat→l9) (w : World) : Prop:=St E 0 ρ Zn (fun _=>.junk) bk ⟨#[],[]⟩ w
theorem St.hp {E : C5} {nt : Nat} {ρ : Nat→Value} {Zn : Nat→Prop} {tm : Nat→AV} {bk : Nat→l9} {a : Act} {w : World} (h : St E nt ρ Zn tm bk a w) : Hp E ρ Zn bk w:=
 ⟨h.os,h.tape,h.output,h.size,h.z0,h.keep,h.zi,h.zy,h.zn,h.fix,h.blk,h.deep,rfl,rfl,fun _=>.inl rfl⟩
theorem Hp.st {E : C5} {nt : Nat} {ρ : Nat→Value} {Zn : Nat→Prop} {tm : Nat→AV} {bk : Nat→l9} {a : Act} {w : World} (h : Hp E ρ Zn bk w) (hd : a.defers = []) (hn : a.tmps.size = nt) (ht : ∀ i,G9 (fz E Zn) w ρ bk (tm i) (a.eval (.tmp i))) : St E nt ρ Zn tm bk a w:=
 ⟨h.os,h.tape,h.output,h.size,h.z0,h.keep,h.zi,h.zy,h.zn,h.fix,h.blk,h.deep,hd,hn,ht⟩
def aI3 (E : C5) (post : List (Nat×l9)) (res : AV) (e : Ending) (w' : World) : Prop:=∃ v ρ' Zn,e = .returned v∧Hp E ρ' Zn (gB post) w'∧G9 (fz E Zn) w' ρ' (gB post) res v
def j7 (P : Program) (f : FuncId) (pre : List (Nat×l9)) (args : List AV) (post : List (Nat×l9)) (res : AV) : Prop:=
 ∀ (E : C5) (ρ : Nat→Value) (vs : List Value),Hp E ρ E.Zi (gB pre) E.W0→(∀ b v,E.ρ0 b = some v→b < pre.length)→Fa (G9 (fz E E.Zi) E.W0 ρ (gB pre)) args vs→Calls P f vs.toArray E.W0 (aI3 E post res)
theorem bT7 {P : Program} {f : FuncId} {fn : Func} {c : Code} {nt : Nat} {pre post : List (Nat×l9)} {args : List AV} {res : AV} (hf : P.funcs[f]? = some fn) (hb : fn.body = some c) (hnt : fn.ntmps = nt) (hle : args.length≤nt)
 (h : ∀ E : C5,(∀ b v,E.ρ0 b = some v→b < pre.length)→AW E nt P c (bodyPost P fn (aI3 E post res)) ⟨aE5 0 args,pre⟩) : j7 P f pre args post res:=by
 intro E ρ vs hp h0 hargs
 refine calls_of_wp hf hb (h E h0 _ _ ⟨ρ,E.Zi,hp.st rfl ?_ (fun i=>?_)⟩)
 ·have:=hargs.1
  simp
  omega
 ·rw [bt1,if_pos (Nat.zero_le _),Nat.sub_zero]
  cases hx : args[i]? with
  | none=>exact .inl rfl
  | some x=>
   obtain ⟨v,hv,hr⟩:=hargs.get hx
   have hi:=(List.getElem?_eq_some_iff.1 hv).1
   have : ({ tmps:=vs.toArray ++ Array.replicate (fn.ntmps - vs.toArray.size) undef,defers:=[] } : Act).eval (.tmp i) = v:=by
    show Array.getD _ i undef = v
    rw [Array.getD_eq_getD_getElem?,Array.getElem?_append_left (by simpa using hi)]
    simp [hv]
   rw [this]
   exact hr
end Go.Proofs.YtahmbcgolnplgaaGreatA
namespace Go.Proofs.YtahmbcgolnplgaaGreatA
open Go
def X5 (P : Program) (T : TypeId) : Bool:=match P.underlying T with
 | some (.struct _) | some (.array _ _)=>false
 | some _=>true
 | none=>false
def am9 (P : Program) (T n : Nat) : Bool:=(match P.underlying T with
 | some (.struct _) | some (.array _ _)=>true
 | _=>false) && (match P.info? T with
 | some i=>Nat.beq i.size n
 | none=>false)
def ae7 (P : Program) (T n : Nat) : Bool:=match P.info? T with
 | some i=>Nat.beq i.size n
 | none=>false
def an1 (P : Program) (T f off : Nat) : Bool:=match P.underlying T with
 | some (.struct fs)=>(match fs[f]? with
  | some fd=>Nat.beq fd.offset off && (match P.info? fd.type with
   | some i=>Nat.blt 0 i.size
   | none=>false)
  | none=>false)
 | _=>false
def O2 (P : Program) (T e sz : Nat) : Bool:=match P.underlying T with
 | some (.slice e')=>Nat.beq e' e && ae7 P e sz
 | _=>false
theorem bz0 {P : Program} {T : TypeId} (h : X5 P T = true) (w : World) : (isAgg T).run P w = .ok false w:=by
 unfold X5 at h
 cases hu : P.underlying T with
 | none=>rw [hu] at h;cases h
 | some d=>cases d <;> rw [hu] at h <;> first | (cases h;done) | simp [isAgg,run_underlying hu]
theorem bR7 {P : Program} {T n : Nat} (h : am9 P T n = true) (w : World) : (isAgg T).run P w = .ok true w∧(sizeOf T).run P w = .ok n w:=by
 unfold am9 at h
 rw [Bool.and_eq_true] at h
 obtain ⟨h1,h2⟩:=h
 constructor
 ·cases hu : P.underlying T with
  | none=>rw [hu] at h1;cases h1
  | some d=>cases d <;> rw [hu] at h1 <;> first | (cases h1;done) | simp [isAgg,run_underlying hu]
 ·cases hi : P.info? T with
  | none=>rw [hi] at h2;cases h2
  | some i=>rw [hi] at h2;simp [sizeOf,typeInfo,hi,D6 h2]
theorem ap1 {P : Program} {T n : Nat} (h : ae7 P T n = true) (w : World) : (sizeOf T).run P w = .ok n w:=by
 unfold ae7 at h
 cases hi : P.info? T with
 | none=>rw [hi] at h;cases h
 | some i=>rw [hi] at h;simp [sizeOf,typeInfo,hi,D6 h]
def imm (z : Fl) : AV→AV
 | .sl _ sz xs=>.sl z sz xs
 | x=>x
section
variable {P : Program} {E : C5} {nt : Nat} {ρ : Nat→Value} {Zn : Nat→Prop} {tm : Nat→AV} {bk : Nat→l9} {a : Act} {w : World} {s : S}
theorem az6 {z : Fl} {x : AV} {u : Value} (h : C3 (fz E Zn z) w x u) : I9 (fz E Zn) w ρ bk (imm z x) u:=by
 cases h with
 | lit h=>exact ⟨rfl,h⟩
 | junk h=>exact h
 | sl ad f hc hm hz hA hl hcell hrep=>exact .sl ad f hc hm hz hA hl hcell hrep
inductive Ld (P : Program) (s : S) (T : Nat) : AV→AV→List Nat→Prop
 | box {b o t : Nat} {cells : List AV} {x : AV} : gB s.bk b = .box t cells→cells[o]? = some x→X5 P T = true→Ld P s T (.box b o) x [b]
 | boxA {b o t n : Nat} {cells l : List AV} : gB s.bk b = .box t cells→(cells.drop o).take n = l→l.length = n→am9 P T n = true→Ld P s T (.box b o) (.agg l) [b]
 | rp {z : Fl} {x y : AV} {j : Nat} : x.leaves[j]? = some y→X5 P T = true→Ld P s T (.rp z x j) (imm z y) []
 | rpA {z : Fl} {x : AV} {j n : Nat} {l : List AV} : (x.leaves.drop j).take n = l→l.length = n→am9 P T n = true→Ld P s T (.rp z x j) (.agg (l.map (imm z))) []
 | el {b e sz i j : Nat} {xs : List AV} {x y : AV} : gB s.bk b = .row e sz xs→xs[i]? = some x→x.leaves[j]? = some y→X5 P T = true→Ld P s T (.elp b sz i j) (imm .n y) [b]
 | elA {b e sz i j n : Nat} {xs l : List AV} {x : AV} : gB s.bk b = .row e sz xs→xs[i]? = some x→(x.leaves.drop j).take n = l→l.length = n→am9 P T n = true→Ld P s T (.elp b sz i j) (.agg (l.map (imm .n))) [b]
theorem aA7 {T n : Nat} {ad : Addr} {cs : List Value} (ht : am9 P T n = true) (hn : cs.length = n) (hc : ∀ j v,cs[j]? = some v→w.cell? (ad.add j) = some v) : (loadVar T ad).run P w = .ok (.agg cs.toArray) w:=by
 obtain ⟨h1,h2⟩:=bR7 ht w
 have h3:=run_loadCells_list (P:=P) w ad cs hc
 rw [hn] at h3
 simp [loadVar,h1,h2,h3]
theorem az9 {T : Nat} {ad : Addr} {v : Value} (ht : X5 P T = true) (hc : w.cell? ad = some v) : (loadVar T ad).run P w = .ok v w:=by
 simp [loadVar,bz0 ht w,hc]
theorem bi1 {b g t : Nat} {cells : List AV} {cs : List Value} (hg : w.heap[g]? = some (.cells cs.toArray t (0,0))) (o : Nat) : w.cell? ⟨g,o,none⟩ = cs[o]?:=by
 simp [World.cell?,hg]
theorem ax8 {e sz : Nat} {v : Value} {xs : List AV} (h : O7 Zn w e sz v xs) {g n c i : Nat} (hv : v = .slice (some ⟨g,0,none⟩) n c) {x : AV} (hx : xs[i]? = some x) : x.leaves.length = sz∧∀ j y,x.leaves[j]? = some y→∃ u,w.cell? ⟨g,i * sz + j,none⟩ = some u∧C3 Zn w y u:=by
 obtain ⟨h0,inner,ho,hl,hr⟩:=h
 refine ⟨hl i x hx,fun j y hy=>?_⟩
 obtain ⟨u,hu,hrep⟩:=hr i x j y hx hy
 refine ⟨u,?_,hrep⟩
 have:=ho.cells (g:=g) (by rw [hv];rfl) (i * sz + j) u hu
 rwa [add_lit] at this
theorem Ld.ok {T : Nat} {p x : AV} {tl : List Nat} (h : Ld P s T p x tl) (hs : St E nt ρ Zn tm bk a w) (hb : ∀ b ∈ tl,bk b = gB s.bk b) {u : Value} (hu : G9 (fz E Zn) w ρ bk p u) :
 ∃ ad v,u = .pointer (some ad)∧(loadVar T ad).run P w = .ok v w∧G9 (fz E Zn) w ρ bk x v:=by
 cases h with
 | @box b o t cells x h1 h2 ht=>
  obtain ⟨hf,g,hg,rfl⟩:=L0 hu rfl
  have hblk:=hs.blk b
  rw [hb b (List.mem_singleton.2 rfl),h1] at hblk
  obtain ⟨g',cs,e1,e2,e3⟩:=hblk
  rw [hg] at e1
  injection e1 with e1;injection e1 with e1;injection e1 with e1
  subst e1
  obtain ⟨v,hv,hr⟩:=e3.get h2
  exact ⟨_,v,rfl,az9 ht (by rw [bi1 (b:=b) (cells:=cells) e2];exact hv),O5 hr⟩
 | @boxA b o t n cells l h1 h2 hn ht=>
  obtain ⟨hf,g,hg,rfl⟩:=L0 hu rfl
  have hblk:=hs.blk b
  rw [hb b (List.mem_singleton.2 rfl),h1] at hblk
  obtain ⟨g',cs,e1,e2,e3⟩:=hblk
  rw [hg] at e1
  injection e1 with e1;injection e1 with e1;injection e1 with e1
  subst e1
  have hfa:=(e3.drop o).take n
  rw [h2] at hfa
  refine ⟨_,.agg ((cs.drop o).take n).toArray,rfl,aA7 ht (by rw [← hfa.1,hn]) (fun j v hv=>?_),.inr (.inr (.inl (.inr ⟨l,_,rfl,rfl,hfa⟩)))⟩
  rw [aw3,bi1 (b:=b) (cells:=cells) e2]
  rw [List.getElem?_take] at hv
  split at hv
  ·rwa [List.getElem?_drop] at hv
  ·cases hv
 | @rp z x y j h1 ht=>
  obtain ⟨ad,f,rfl,hz,hc⟩:=L0 hu rfl
  obtain ⟨h2,h3⟩:=hc j y h1
  exact ⟨_,f j,rfl,az9 ht h2,O5 (.inl (az6 h3))⟩
 | @rpA z x j n l h1 hn ht=>
  obtain ⟨ad,f,rfl,hz,hc⟩:=L0 hu rfl
  have get : ∀ i y,l[i]? = some y→x.leaves[j + i]? = some y:=by
   intro i y hy
   rw [← h1,List.getElem?_take] at hy
   split at hy
   ·rwa [List.getElem?_drop] at hy
   ·cases hy
  refine ⟨_,.agg ((List.range n).map fun i=>f (j + i)).toArray,rfl,aA7 ht (by simp) (fun i v hv=>?_),.inr (.inr (.inl (.inr ⟨_,_,rfl,rfl,?_⟩)))⟩
  ·rw [List.getElem?_map] at hv
   obtain ⟨i',hi',rfl⟩:=Option.map_eq_some_iff.1 hv
   have hi:=(List.getElem?_eq_some_iff.1 hi').1
   rw [List.getElem?_range (by simpa using hi)] at hi'
   injection hi' with hi'
   subst hi'
   have hi2 : i < l.length:=by simpa [hn] using hi
   rw [add_add]
   exact (hc (j + i) _ (get i _ (List.getElem?_eq_getElem hi2))).1
  ·refine Fa.map_left.2 ⟨by simp [hn],fun i y v hy hv=>?_⟩
   rw [List.getElem?_map] at hv
   obtain ⟨i',hi',rfl⟩:=Option.map_eq_some_iff.1 hv
   have hi:=(List.getElem?_eq_some_iff.1 hi').1
   rw [List.getElem?_range (by simpa using hi)] at hi'
   injection hi' with hi'
   subst hi'
   exact .inl (az6 (hc (j + i) _ (get i _ hy)).2)
 | @el b e sz i j xs x y h1 h2 h3 ht=>
  obtain ⟨hf,g,n,c,hg,rfl⟩:=L0 hu rfl
  have hblk:=hs.blk b
  rw [hb b (List.mem_singleton.2 rfl),h1] at hblk
  obtain ⟨hl,hc⟩:=ax8 hblk hg h2
  obtain ⟨v,hv,hr⟩:=hc j y h3
  exact ⟨_,v,rfl,az9 ht hv,O5 (.inl (az6 (z:=.n) hr))⟩
 | @elA b e sz i j n xs l x h1 h2 h3 hn ht=>
  obtain ⟨hf,g,n',c,hg,rfl⟩:=L0 hu rfl
  have hblk:=hs.blk b
  rw [hb b (List.mem_singleton.2 rfl),h1] at hblk
  obtain ⟨hl,hc⟩:=ax8 hblk hg h2
  have get : ∀ k y,l[k]? = some y→x.leaves[j + k]? = some y:=by
   intro k y hy
   rw [← h3,List.getElem?_take] at hy
   split at hy
   ·rwa [List.getElem?_drop] at hy
   ·cases hy
  have : ∃ cs : List Value,cs.length = n∧∀ k v,cs[k]? = some v→w.cell? ⟨g,i * sz + (j + k),none⟩ = some v∧∃ y,l[k]? = some y∧C3 Zn w y v:=by
   refine ⟨(List.range n).map fun k=>(w.cell? ⟨g,i * sz + (j + k),none⟩).getD undef,by simp,fun k v hv=>?_⟩
   rw [List.getElem?_map] at hv
   obtain ⟨k',hk',rfl⟩:=Option.map_eq_some_iff.1 hv
   have hk:=(List.getElem?_eq_some_iff.1 hk').1
   rw [List.getElem?_range (by simpa using hk)] at hk'
   injection hk' with hk'
   subst hk'
   have hk2 : k < l.length:=by simpa [hn] using hk
   obtain ⟨v,hv,hr⟩:=hc (j + k) _ (get k _ (List.getElem?_eq_getElem hk2))
   rw [hv]
   exact ⟨rfl,_,List.getElem?_eq_getElem hk2,hr⟩
  obtain ⟨cs,hcl,hcs⟩:=this
  refine ⟨_,.agg cs.toArray,rfl,aA7 ht hcl (fun k v hv=>?_),.inr (.inr (.inl (.inr ⟨_,_,rfl,rfl,?_⟩)))⟩
  ·rw [aw3,Nat.add_assoc];exact (hcs k v hv).1
  ·refine Fa.map_left.2 ⟨by rw [hn,hcl],fun k y v hy hv=>?_⟩
   obtain ⟨_,y',hy',hr⟩:=hcs k v hv
   rw [hy] at hy';injection hy' with hy';subst hy'
   exact .inl (az6 (z:=.n) hr)
inductive Rs (P : Program) (s : S) : List ResultVar→List AV→Prop
 | nil : Rs P s [] []
 | tmp {t : Tmp} {rs : List ResultVar} {l : List AV} : Rs P s rs l→Rs P s (.tmp t :: rs) (gT s.tm t :: l)
 | cell {t T : Nat} {x : AV} {tl : List Nat} {rs : List ResultVar} {l : List AV} : Ld P s T (gT s.tm t) x tl→Rs P s rs l→Rs P s (.cell t T :: rs) (x :: l)
theorem Rs.ok {rs : List ResultVar} {l : List AV} (h : Rs P s rs l) (hs : St E nt ρ Zn (gT s.tm) (gB s.bk) a w) :
 ∃ vs : List Value,(rs.mapM (m:=Sem) fun | .tmp t=>pure (a.tmps.getD t undef) | .cell p t=>do loadVar t (← asAddr (a.tmps.getD p undef))).run P w = .ok vs w∧Fa (G9 (fz E Zn) w ρ (gB s.bk)) l vs:=by
 induction h with
 | nil=>exact ⟨[],rfl,Fa.nil⟩
 | @tmp t rs l h ih=>
  obtain ⟨vs,h1,h2⟩:=ih
  refine ⟨_ :: vs,?_,Fa.cons (hs.tmp t) h2⟩
  rw [List.mapM_cons,Sem.run_bind]
  show (Result.ok (a.tmps.getD t undef) w).andThen _ = _
  rw [Result.andThen_ok,Sem.run_bind,h1]
  rfl
 | @cell t T x tl rs l hl h ih=>
  obtain ⟨vs,h1,h2⟩:=ih
  obtain ⟨ad,v,e1,e2,e3⟩:=hl.ok hs (fun _ _=>rfl) (hs.tmp t)
  have e1' : a.tmps.getD t undef = .pointer (some ad):=e1
  refine ⟨v :: vs,?_,Fa.cons e3 h2⟩
  have e4 : (do loadVar T (← asAddr (a.tmps.getD t undef)) : Sem Value).run P w = .ok v w:=by
   rw [e1',Sem.run_bind]
   exact e2
  rw [List.mapM_cons,Sem.run_bind]
  show (Sem.run P (do loadVar T (← asAddr (a.tmps.getD t undef)) : Sem Value) w).andThen _ = _
  rw [e4,Result.andThen_ok,Sem.run_bind,h1]
  rfl
inductive Rv : List AV→AV→Prop
 | one (x : AV) : Rv [x] x
 | none : Rv [] (.tup [])
 | many (x y : AV) (l : List AV) : Rv (x :: y :: l) (.tup (x :: y :: l))
def af7 : AV→Bool
 | .junk | .tup _=>false
 | .lit (.agg _) | .lit (.tuple _)=>false
 | _=>true
theorem ap9 {x : AV} {u : Value} (h : G9 (fz E Zn) w ρ bk x u) (hx : af7 x = true) : ab0 (fz E Zn) w ρ bk x u:=by
 rcases h with rfl | rfl | h | ⟨l,cs,rfl,_⟩
 ·cases hx
 ·refine .inl (.inl ⟨rfl,?_⟩)
  cases u <;> first | rfl | cases hx
 ·exact h
 ·cases hx
theorem Rv.ok {l : List AV} {x : AV} (h : Rv l x) (hl : l.all af7 = true) {vs : List Value} (hv : Fa (G9 (fz E Zn) w ρ bk) l vs) : G9 (fz E Zn) w ρ bk x (if h : vs.toArray.size = 1 then vs.toArray[0] else .tuple vs.toArray):=by
 have key : ∀ {m : List AV} {us : List Value},m.all af7 = true→Fa (G9 (fz E Zn) w ρ bk) m us→Fa (ab0 (fz E Zn) w ρ bk) m us:=by
  intro m us hm h
  exact ⟨h.1,fun i a b ha hb=>ap9 (h.2 i a b ha hb) (List.all_eq_true.1 hm a (List.mem_of_getElem? ha))⟩
 cases h with
 | one x=>
  obtain ⟨v,vs',rfl,h1,h2⟩:=hv.uncons
  have:=h2.unnil
  subst this
  exact h1
 | none=>
  have:=hv.unnil
  subst this
  exact .inr (.inr (.inr ⟨[],[],rfl,rfl,Fa.nil⟩))
 | many x y l=>
  have h1:=hv.1
  have : ¬ (vs.toArray.size = 1):=by simp at h1 ⊢;omega
  rw [dif_neg this]
  exact .inr (.inr (.inr ⟨_,vs,rfl,rfl,key hl hv⟩))
end
section
variable {P : Program} {E : C5} {nt : Nat} {s : S}
theorem bp3 {fn : Func} {rs : List ResultVar} {tmps : Array Value} {w : World} {vs : List Value} (hfn : fn.results = rs.toArray) (h : (rs.mapM (m:=Sem) fun | .tmp t=>pure (tmps.getD t undef) | .cell p t=>do loadVar t (← asAddr (tmps.getD p undef))).run P w = .ok vs w) :
 (results fn tmps).run P w = .ok (if h : vs.toArray.size = 1 then vs.toArray[0] else .tuple vs.toArray) w:=by
 unfold results
 rw [hfn]
 rw [Sem.run_bind,List.mapM_toArray,Sem.run_map]
 exact (congrArg (fun r=>Result.andThen (Result.andThen r _) _) h).trans rfl
theorem bW8 {fn : Func} {post : List (Nat×l9)} {res : AV} {ni : Nat} (hE : ∀ b v,E.ρ0 b = some v→b < ni) {rs : List ResultVar} {l : List AV} {x : AV} (hres : fn.results = rs.toArray) (hr : Rs P s rs l) (hv : Rv l x) (hl : l.all af7 = true)
 (m : List (Nat×Nat)) (far : Nat) (hx : x = aH3 (lkN far m) res) (hB : as8 s (lkN far m) post)
 (hfar : gB s.bk far = .fresh:=by rfl) (hdom : m.map (·.1) = post.map (·.1):=by rfl) (hnd : Q0 (m.map (·.2)) = true:=by rfl) (hnf : X4 post = true:=by rfl) (hid : idN ni m = true:=by rfl) (hndk : Q0 (m.map (·.1)) = true:=by rfl) :
 m9 E nt s (bodyPost P fn (aI3 E post res) .ret):=by
 intro a w ⟨ρ,Zn,hs⟩
 obtain ⟨vs,h1,h2⟩:=hr.ok hs
 refine ⟨hs.defers,_,bp3 hres h1,?_⟩
 have hw:=St.weak (s':=⟨[],post⟩) hs hfar hdom hnd trivial hB hnf (fun b v hv=>aX3 hid b (hE b v hv)) hndk
 refine ⟨_,_,Zn,rfl,hw.hp,?_⟩
 have h3:=Rv.ok hv hl h2
 rw [hx] at h3
 refine G9.ren (fun b hb=>?_) h3
 rcases at7 (far:=far) (m:=m) (b:=b) with ⟨e,_⟩ | e
 ·rw [e] at hb;exact absurd hfar hb
 ·exact aj7 hnf b (by rw [← hdom];exact List.mem_map.2 ⟨_,e,rfl⟩)
theorem af3 {fn : Func} {post : List (Nat×l9)} {res : AV} (h : m9 E nt s (bodyPost P fn (aI3 E post res) .ret)) : m9 E nt s (bodyPost P fn (aI3 E post res) .normal):=h
end
end Go.Proofs.YtahmbcgolnplgaaGreatA
namespace Go.Proofs.YtahmbcgolnplgaaGreatA
open Go
def mp1 (g : AV→AV) : AV→AV
 | .agg l=>.agg (l.map g)
 | x=>g x
def mp2 (g : AV→AV) : AV→AV
 | .fn f caps=>.fn f (caps.map (mp1 g))
 | x=>g x
def mp3 (g : AV→AV) : AV→AV
 | .agg l=>.agg (l.map (mp2 g))
 | x=>mp2 g x
def mp4 (g : AV→AV) : AV→AV
 | .tup l=>.tup (l.map (mp3 g))
 | x=>mp3 g x
def mpB (g : AV→AV) : l9→l9
 | .box t l=>.box t (l.map (mp2 g))
 | .drow true _ _ _ _=>.gone
 | b=>b
def fle (z up : Fl) : Bool:=match up,z with
 | .o,_=>true
 | .n,.n=>true
 | .u,.u=>true
 | _,_=>false
def ar7 (f : AV→AV→AV) : List AV→List AV→List AV
 | _,[]=>[]
 | [],x :: xs=>f .junk x :: ar7 f [] xs
 | y :: ys,x :: xs=>f y x :: ar7 f ys xs
def vw0 (s : S) (I : List Nat) (up : Fl) (y x : AV) : AV:=match x with
 | .row b=>(match y with
  | .sl _ _ _=>(match I.contains b,gB s.bk b with
   | false,.row _ sz xs=>.sl .o sz xs
   | false,.drow false _ _ sz xs=>.sl .o sz xs
   | _,_=>.junk)
  | _=>.row b)
 | .sub b sz lo n=>(match y with
  | .sl _ _ _=>(match I.contains b,gB s.bk b with
   | false,.row _ sz' xs=>(match Nat.beq sz' sz with
    | true=>.sl .o sz ((xs.drop lo).take n)
    | false=>.junk)
   | _,_=>.junk)
  | _=>.junk)
 | .sl z sz xs=>(match y with
  | .sl .u _ _=>(match fle z up with
   | true=>.sl .u sz xs
   | false=>.junk)
  | _=>.sl .o sz xs)
 | .rp z x j=>.rp .o x j
 | .lit (.slice none 0 0)=>(match y with
  | .sl z sz _=>(match Nat.blt 0 sz with
   | true=>.sl (match z with | .u=>.u | _=>.o) sz []
   | false=>.lit (.slice none 0 0))
  | _=>.lit (.slice none 0 0))
 | x=>x
def bT5 : AV→List AV
 | .agg l=>l
 | _=>[]
def fnL : AV→List AV
 | .fn _ l=>l
 | _=>[]
def cg3 : l9→List AV
 | .box _ l=>l
 | _=>[]
def vw1 (s : S) (I : List Nat) (up : Fl) (y x : AV) : AV:=match x with
 | .agg l=>.agg (ar7 (vw0 s I up) (bT5 y) l)
 | x=>vw0 s I up y x
def vw2 (s : S) (I : List Nat) (up : Fl) (y x : AV) : AV:=match x with
 | .fn f l=>.fn f (ar7 (vw1 s I up) (fnL y) l)
 | x=>vw0 s I up y x
def vw3 (s : S) (I : List Nat) (up : Fl) (y x : AV) : AV:=match x with
 | .agg l=>.agg (ar7 (vw2 s I up) (bT5 y) l)
 | x=>vw2 s I up y x
def vwB (s : S) (I : List Nat) (up : Fl) (y x : l9) : l9:=match x with
 | .box t l=>.box t (ar7 (vw2 s I up) (cg3 y) l)
 | .drow true _ _ _ _=>.gone
 | x=>x
def ae5 (up : Fl) (m : Nat→Nat) : AV→AV
 | .sl .u sz xs=>.sl up sz xs
 | .sl .n sz xs=>.sl .n sz xs
 | .sl .o _ _=>.junk
 | .rp .u x j=>.rp up x j
 | .rp .n x j=>.rp .n x j
 | .rp .o _ _=>.junk
 | x=>au8 m x
def aM3 : AV→List Nat
 | .row b=>[b]
 | .sub b _ _ _=>[b]
 | _=>[]
def bw1 : AV→List Nat
 | .agg l=>l.flatMap aM3
 | x=>aM3 x
def aL1 : AV→List Nat
 | .fn _ l=>l.flatMap bw1
 | x=>aM3 x
def aM4 : AV→List Nat
 | .agg l=>l.flatMap aL1
 | x=>aL1 x
def bg2 : l9→List Nat
 | .box _ l=>l.flatMap aL1
 | _=>[]
theorem ax1 {Rx Ry : AV→Value→Prop} {f : AV→AV→AV} : ∀ {ys xs : List AV} {vs : List Value},Fa Rx xs vs→(∀ x,x ∈ xs→∀ y v,Rx x v→Ry (f y x) v)→Fa Ry (ar7 f ys xs) vs
 | _,[],vs,h,_=>by have:=h.unnil;subst this;simp only [ar7];exact Fa.nil
 | y :: ys,x :: xs,vs,h,hf=>by
  obtain ⟨v,vs',rfl,h1,h2⟩:=h.uncons
  exact Fa.cons (hf x List.mem_cons_self y v h1) (ax1 h2 (fun x hx=>hf x (List.mem_cons_of_mem _ hx)))
 | [],x :: xs,vs,h,hf=>by
  obtain ⟨v,vs',rfl,h1,h2⟩:=h.uncons
  exact Fa.cons (hf x List.mem_cons_self .junk v h1) (ax1 h2 (fun x hx=>hf x (List.mem_cons_of_mem _ hx)))
section
variable {Zf Zf' : Fl→Nat→Prop} {w : World} {ρ : Nat→Value} {bk : Nat→l9} {s : S} {I : List Nat} {up : Fl}
structure Vw (Zf Zf' : Fl→Nat→Prop) (w : World) (ρ : Nat→Value) (bk : Nat→l9) (I : List Nat) (up : Fl) : Prop where
 row : ∀ b e sz xs,b ∉ I→bk b = .row e sz xs→C3 (Zf' .o) w (.sl .o sz xs) (ρ b)
 drow : ∀ b ds e sz xs,b ∉ I→bk b = .drow false ds e sz xs→C3 (Zf' .o) w (.sl .o sz xs) (ρ b)
 sub : ∀ b e sz xs lo n A N c,b ∉ I→bk b = .row e sz xs→ρ b = .slice A N c→lo + n≤N→C3 (Zf' .o) w (.sl .o sz ((xs.drop lo).take n)) (sliced A lo (lo + n) c sz)
 upz : ∀ z k,fle z up = true→Zf z k→Zf' .u k
 old : ∀ z k,Zf z k→Zf' .o k
theorem bu6 {y : AV} {u : Value} : vw0 s I up y (.lit u) = .lit u∨(u = .slice none 0 0∧∃ z sz,0 < sz∧vw0 s I up y (.lit u) = .sl z sz []):=by
 by_cases hu : u = .slice none 0 0
 ·subst hu
  show (match y with | .sl z sz _=>(match Nat.blt 0 sz with | true=>AV.sl (match z with | .u=>.u | _=>.o) sz [] | false=>.lit (.slice none 0 0)) | _=>.lit (.slice none 0 0)) = _∨(_∧∃ z' sz',0 < sz'∧(match y with | .sl z sz _=>(match Nat.blt 0 sz with | true=>AV.sl (match z with | .u=>.u | _=>.o) sz [] | false=>.lit (.slice none 0 0)) | _=>.lit (.slice none 0 0)) = AV.sl z' sz' [])
  cases y with
  | sl z sz xs=>
   cases hb : Nat.blt 0 sz with
   | true=>cases z <;> exact .inr ⟨rfl,_,sz,by simpa using hb,by simp only [hb];rfl⟩
   | false=>exact .inl (by simp only [hb])
  | _=>exact .inl rfl
 ·left
  unfold vw0
  split
  all_goals first | rfl | skip
  all_goals (rename_i h;cases h)
  all_goals first | rfl | exact absurd rfl hu
theorem ap6 {Z : Nat→Prop} {z : Fl} {sz : Nat} (h : 0 < sz) : C3 Z w (.sl z sz []) (.slice none 0 0):=
 .sl (⟨0,0,none⟩ : Addr) (fun _ _=>undef) (by simp) (by simp) h (fun h=>by simp at h) (fun j x h=>by simp at h) (fun j x i lv h=>by simp at h) (fun j x i lv h=>by simp at h)
theorem bi2 (H : Vw Zf Zf' w ρ bk I up) {y x : AV} {v : Value} (hb : ∀ b ∈ aM3 x,bk b = gB s.bk b) (h : I9 Zf w ρ bk x v) : I9 Zf' w ρ bk (vw0 s I up y x) v:=by
 cases x with
 | row b=>
  obtain ⟨h1,rfl,h3⟩:=h
  have keep : I9 Zf' w ρ bk (.row b) (ρ b):=⟨h1,rfl,h3⟩
  have jk : I9 Zf' w ρ bk .junk (ρ b):=h3
  show I9 Zf' w ρ bk (match y with | .sl _ _ _=>(match I.contains b,gB s.bk b with | false,.row _ sz xs=>AV.sl .o sz xs | false,.drow false _ _ sz xs=>AV.sl .o sz xs | _,_=>.junk) | _=>.row b) (ρ b)
  cases y with
  | sl z' sz' xs'=>
   simp only
   have e:=hb b (List.mem_singleton.2 rfl)
   cases hc : I.contains b with
   | true=>exact jk
   | false=>
    cases hg : gB s.bk b with
    | row e' sz xs=>exact H.row b e' sz xs (by simpa using hc) (e.trans hg)
    | drow op ds e' sz xs=>cases op with
     | false=>exact H.drow b ds e' sz xs (by simpa using hc) (e.trans hg)
     | true=>exact jk
    | _=>exact jk
  | _=>exact keep
 | sub b sz lo n=>
  obtain ⟨h1,A,N,c,h2,h3,rfl⟩:=h
  have jk : I9 Zf' w ρ bk .junk (sliced A lo (lo + n) c sz):=rfl
  show I9 Zf' w ρ bk (match y with | .sl _ _ _=>(match I.contains b,gB s.bk b with | false,.row _ sz' xs=>(match Nat.beq sz' sz with | true=>AV.sl .o sz ((xs.drop lo).take n) | false=>.junk) | _,_=>.junk) | _=>.junk) (sliced A lo (lo + n) c sz)
  cases y with
  | sl z' sz1 xs'=>
   simp only
   have e:=hb b (List.mem_singleton.2 rfl)
   cases hc : I.contains b with
   | true=>exact jk
   | false=>
    cases hg : gB s.bk b with
    | row e' sz' xs=>
     simp only
     cases hz : Nat.beq sz' sz with
     | false=>exact jk
     | true=>
      have:=D6 hz
      subst this
      exact H.sub b e' sz' xs lo n A N c (by simpa using hc) (e.trans hg) h2 h3
    | _=>exact jk
  | _=>exact jk
 | sl z sz xs=>
  have h0 : I9 Zf' w ρ bk (.sl .o sz xs) v:=C3.flag (C3.move h (fun _ _=>rfl) (H.old z))
  have h1 : v.oneCell' = true:=C3.one h
  show I9 Zf' w ρ bk (match y with | .sl .u _ _=>(match fle z up with | true=>AV.sl .u sz xs | false=>.junk) | _=>.sl .o sz xs) v
  cases y with
  | sl z' sz' xs'=>
   cases z' with
   | u=>
    simp only
    cases hf : fle z up with
    | true=>exact C3.flag (C3.move h (fun _ _=>rfl) (H.upz z · hf))
    | false=>exact h1
   | _=>exact h0
  | _=>exact h0
 | rp z x j=>
  obtain ⟨ad,f,h1,h2,h3⟩:=h
  exact ⟨ad,f,h1,H.old z _ h2,fun i lv hi=>⟨(h3 i lv hi).1,C3.move (h3 i lv hi).2 (fun _ _=>rfl) (H.old z)⟩⟩
 | junk=>exact h
 | lit u=>
  rcases bu6 (s:=s) (I:=I) (up:=up) (y:=y) (u:=u) with e | ⟨e1,z,sz,h0,e2⟩
  ·rw [e];exact h
  ·rw [e2,h.1,e1];exact ap6 h0
 | box b o=>exact h
 | elp b sz i j=>exact h
 | agg l=>exact h.elim
 | tup l=>exact h.elim
 | fn f c=>exact h.elim
theorem bX6 (H : Vw Zf Zf' w ρ bk I up) {y x : AV} {v : Value} (hb : ∀ b ∈ bw1 x,bk b = gB s.bk b) (h : ad9 Zf w ρ bk x v) : ad9 Zf' w ρ bk (vw1 s I up y x) v:=by
 rcases h with h | ⟨l,cs,rfl,rfl,h3⟩
 ·have hx : ∀ l,x≠.agg l:=by rintro l rfl;exact h
  have e : vw1 s I up y x = vw0 s I up y x:=by cases x <;> first | rfl | exact absurd rfl (hx _)
  have e2 : bw1 x = aM3 x:=by cases x <;> first | rfl | exact absurd rfl (hx _)
  rw [e]
  exact .inl (bi2 H (e2▸hb) h)
 ·exact .inr ⟨_,cs,rfl,rfl,ax1 h3 (fun x hx y v hv=>bi2 H (fun b hb'=>hb b (List.mem_flatMap.2 ⟨x,hx,hb'⟩)) hv)⟩
theorem bg9 (H : Vw Zf Zf' w ρ bk I up) {y x : AV} {v : Value} (hb : ∀ b ∈ aL1 x,bk b = gB s.bk b) (h : L6 Zf w ρ bk x v) : L6 Zf' w ρ bk (vw2 s I up y x) v:=by
 rcases h with h | ⟨f,l,cs,rfl,rfl,h3⟩
 ·have hx : ∀ f l,x≠.fn f l:=by rintro f l rfl;exact h
  have e : vw2 s I up y x = vw0 s I up y x:=by cases x <;> first | rfl | exact absurd rfl (hx _ _)
  have e2 : aL1 x = aM3 x:=by cases x <;> first | rfl | exact absurd rfl (hx _ _)
  rw [e]
  exact .inl (bi2 H (e2▸hb) h)
 ·exact .inr ⟨f,_,cs,rfl,rfl,ax1 h3 (fun x hx y v hv=>bX6 H (fun b hb'=>hb b (List.mem_flatMap.2 ⟨x,hx,hb'⟩)) hv)⟩
theorem bX4 (H : Vw Zf Zf' w ρ bk I up) {y x : AV} {v : Value} (hb : ∀ b ∈ aM4 x,bk b = gB s.bk b) (h : ab0 Zf w ρ bk x v) : ab0 Zf' w ρ bk (vw3 s I up y x) v:=by
 rcases h with h | ⟨l,cs,rfl,rfl,h3⟩
 ·have hx : ∀ l,x≠.agg l:=by
   rintro l rfl
   rcases h with h | ⟨_,_,_,h,_⟩
   ·exact h
   ·cases h
  have e : vw3 s I up y x = vw2 s I up y x:=by cases x <;> first | rfl | exact absurd rfl (hx _)
  have e2 : aM4 x = aL1 x:=by cases x <;> first | rfl | exact absurd rfl (hx _)
  rw [e]
  exact .inl (bg9 H (e2▸hb) h)
 ·exact .inr ⟨_,cs,rfl,rfl,ax1 h3 (fun x hx y v hv=>bg9 H (fun b hb'=>hb b (List.mem_flatMap.2 ⟨x,hx,hb'⟩)) hv)⟩
theorem bP1 (H : Vw Zf Zf' w ρ bk I up) {y x : AV} {v : Value} (hb : ∀ b ∈ aM4 x,bk b = gB s.bk b) (h : G9 Zf w ρ bk x v) (ht : ∀ l,x≠.tup l) : G9 Zf' w ρ bk (vw3 s I up y x) v:=by
 rcases h with rfl | rfl | h | ⟨l,cs,rfl,_⟩
 ·exact .inl rfl
 ·rcases bu6 (s:=s) (I:=I) (up:=up) (y:=y) (u:=v) with e | ⟨e1,z,sz,h0,e2⟩
  ·refine .inr (.inl ?_);show vw0 s I up y (.lit v) = .lit v;exact e
  ·subst e1
   show G9 Zf' w ρ bk (vw0 s I up y (.lit (.slice none 0 0))) _
   rw [e2];exact O5 (.inl (ap6 h0))
 ·exact .inr (.inr (.inl (bX4 H hb h)))
 ·exact absurd rfl (ht l)
theorem bX3 (H : Vw Zf Zf' w ρ bk I up) (hn : ∀ k,Zf .n k→Zf' .n k) {y x : l9} {v : Value} (hb : ∀ b ∈ bg2 x,bk b = gB s.bk b) (h : R3 Zf w ρ bk v x) : R3 Zf' w ρ bk v (vwB s I up y x):=by
 cases x with
 | fresh=>trivial
 | gone=>trivial
 | box t l=>
  obtain ⟨g,cs,h1,h2,h3⟩:=h
  exact ⟨g,cs,h1,h2,ax1 h3 (fun x hx y v hv=>bg9 H (fun b hb'=>hb b (List.mem_flatMap.2 ⟨x,hx,hb'⟩)) hv)⟩
 | row e sz xs=>exact O7.move h (fun k hk=>⟨rfl,hn k hk⟩) (fun _ _=>rfl)
 | drow op ds e sz xs=>cases op <;> trivial
end
section
variable {Zf Zf' : Fl→Nat→Prop} {w : World} {ρ ρ' : Nat→Value} {bk bk' : Nat→l9} {m : Nat→Nat} {up : Fl}
structure Bw (Zf Zf' : Fl→Nat→Prop) (ρ ρ' : Nat→Value) (bk bk' : Nat→l9) (m : Nat→Nat) (up : Fl) : Prop where
 new : ∀ k,Zf .n k→Zf' .n k
 old : ∀ k,Zf .u k→Zf' up k
 ids : ∀ b,bk b≠.fresh→bk' (m b)≠.fresh∧ρ' (m b) = ρ b
theorem aY6 (H : Bw Zf Zf' ρ ρ' bk bk' m up) {x : AV} {v : Value} (h : I9 Zf w ρ bk x v) : I9 Zf' w ρ' bk' (ae5 up m x) v:=by
 cases x with
 | row b=>obtain ⟨h1,h2,h3⟩:=h;exact ⟨(H.ids b h1).1,h2.trans (H.ids b h1).2.symm,h3⟩
 | box b o=>obtain ⟨h1,g,h2,h3⟩:=h;exact ⟨(H.ids b h1).1,g,(H.ids b h1).2.trans h2,h3⟩
 | sub b sz lo n=>obtain ⟨h1,A,N,c,h2,h3⟩:=h;exact ⟨(H.ids b h1).1,A,N,c,(H.ids b h1).2.trans h2,h3⟩
 | elp b sz i j=>obtain ⟨h1,g,n,c,h2,h3⟩:=h;exact ⟨(H.ids b h1).1,g,n,c,(H.ids b h1).2.trans h2,h3⟩
 | sl z sz xs=>
  cases z with
  | o=>exact C3.one h
  | n=>exact C3.move h (fun _ _=>rfl) H.new
  | u=>exact C3.flag (C3.move h (fun _ _=>rfl) H.old)
 | rp z x j=>
  obtain ⟨ad,f,h1,h2,h3⟩:=h
  cases z with
  | o=>rw [h1];rfl
  | n=>exact ⟨ad,f,h1,H.new _ h2,fun i lv hi=>⟨(h3 i lv hi).1,C3.move (h3 i lv hi).2 (fun _ _=>rfl) H.new⟩⟩
  | u=>exact ⟨ad,f,h1,H.old _ h2,fun i lv hi=>⟨(h3 i lv hi).1,C3.move (h3 i lv hi).2 (fun _ _=>rfl) H.old⟩⟩
 | junk=>exact h
 | lit v=>exact h
 | agg l=>exact h.elim
 | tup l=>exact h.elim
 | fn f c=>exact h.elim
theorem bR0 (H : Bw Zf Zf' ρ ρ' bk bk' m up) {x : AV} {v : Value} (h : ad9 Zf w ρ bk x v) : ad9 Zf' w ρ' bk' (mp1 (ae5 up m) x) v:=by
 rcases h with h | ⟨l,cs,rfl,rfl,h3⟩
 ·have e : mp1 (ae5 up m) x = ae5 up m x:=by cases x <;> first | rfl | exact h.elim
  rw [e];exact .inl (aY6 H h)
 ·exact .inr ⟨_,cs,rfl,rfl,Fa.map_left.2 (h3.imp fun _ _ h=>aY6 H h)⟩
theorem aX2 (H : Bw Zf Zf' ρ ρ' bk bk' m up) {x : AV} {v : Value} (h : L6 Zf w ρ bk x v) : L6 Zf' w ρ' bk' (mp2 (ae5 up m) x) v:=by
 rcases h with h | ⟨f,l,cs,rfl,rfl,h3⟩
 ·have e : mp2 (ae5 up m) x = ae5 up m x:=by cases x <;> first | rfl | exact h.elim
  rw [e];exact .inl (aY6 H h)
 ·exact .inr ⟨f,_,cs,rfl,rfl,Fa.map_left.2 (h3.imp fun _ _ h=>bR0 H h)⟩
theorem bu1 (H : Bw Zf Zf' ρ ρ' bk bk' m up) {x : AV} {v : Value} (h : ab0 Zf w ρ bk x v) : ab0 Zf' w ρ' bk' (mp3 (ae5 up m) x) v:=by
 rcases h with h | ⟨l,cs,rfl,rfl,h3⟩
 ·have e : mp3 (ae5 up m) x = mp2 (ae5 up m) x:=by
   cases x <;> first | rfl | (rcases h with h | ⟨_,_,_,h,_⟩;exact h.elim;cases h)
  rw [e];exact .inl (aX2 H h)
 ·exact .inr ⟨_,cs,rfl,rfl,Fa.map_left.2 (h3.imp fun _ _ h=>aX2 H h)⟩
theorem bS6 (H : Bw Zf Zf' ρ ρ' bk bk' m up) {x : AV} {v : Value} (h : G9 Zf w ρ bk x v) : G9 Zf' w ρ' bk' (mp4 (ae5 up m) x) v:=by
 rcases h with rfl | rfl | h | ⟨l,cs,rfl,rfl,h3⟩
 ·exact .inl rfl
 ·exact .inr (.inl rfl)
 ·have e : mp4 (ae5 up m) x = mp3 (ae5 up m) x:=by
   cases x <;> first | rfl | (rcases h with h | ⟨_,_,h,_⟩;rcases h with h | ⟨_,_,_,h,_⟩;exact h.elim;cases h;cases h)
  rw [e];exact .inr (.inr (.inl (bu1 H h)))
 ·exact .inr (.inr (.inr ⟨_,cs,rfl,rfl,Fa.map_left.2 (h3.imp fun _ _ h=>bu1 H h)⟩))
theorem bS1 (H : Bw Zf Zf' ρ ρ' bk bk' m up) {x : l9} {v : Value} (h : R3 Zf w ρ bk v x) : R3 Zf' w ρ' bk' v (mpB (ae5 up m) x):=by
 cases x with
 | fresh=>trivial
 | gone=>trivial
 | box t l=>
  obtain ⟨g,cs,h1,h2,h3⟩:=h
  exact ⟨g,cs,h1,h2,Fa.map_left.2 (h3.imp fun _ _ h=>aX2 H h)⟩
 | row e sz xs=>exact O7.move h (fun k hk=>⟨rfl,H.new k hk⟩) (fun _ _=>rfl)
 | drow op ds e sz xs=>cases op <;> trivial
end
theorem aB0 {Zn Z : Nat→Prop} {w : World} {e sz : Nat} {v : Value} {xs : List AV} {z : Fl} (h : O7 Zn w e sz v xs) (hz : ∀ k,Zn k→Z k) (ho : ∀ k,M9 v = some k→Z k) : C3 Z w (.sl z sz xs) v:=by
 obtain ⟨h0,inner,hown,hl,hr⟩:=h
 rcases hown.2 with ⟨rfl,hn⟩ | ⟨g,cap,cur,rfl,hg,hh,hnc,hcm,_⟩
 ·have hx : xs = []:=List.eq_nil_of_length_eq_zero hn
  subst hx
  exact .sl (A:=none) (c:=0) ⟨0,0,none⟩ (fun _ _=>undef) (by simp) (by simp) h0 (fun h=>absurd h (by simp)) (fun j x h=>by simp at h) (fun j x i lv h=>by simp at h) (fun j x i lv h=>by simp at h)
 ·have hcell : ∀ j x i lv,xs[j]? = some x→x.leaves[i]? = some lv→∃ u,w.cell? (Addr.add ⟨g,0,none⟩ (j * sz + i)) = some u∧C3 Z w lv u:=by
   intro j x i lv hj hi
   obtain ⟨u,hu,hv⟩:=hr j x i lv hj hi
   exact ⟨u,hown.cells (g:=g) rfl _ u hu,hv.move (fun _ _=>rfl) hz⟩
  refine .sl ⟨g,0,none⟩ (fun j i=>(w.cell? (Addr.add ⟨g,0,none⟩ (j * sz + i))).getD undef) hnc (Nat.le_trans hnc (by simp only [maxLen] at hcm;omega)) h0 (fun _=>⟨rfl,ho g rfl⟩) hl (fun j x i lv hj hi=>?_) (fun j x i lv hj hi=>?_)
  ·obtain ⟨u,hu,_⟩:=hcell j x i lv hj hi
   rw [hu];rfl
  ·obtain ⟨u,hu,hv⟩:=hcell j x i lv hj hi
   rw [hu];exact hv
theorem Lv.rep {Zn Z : Nat→Prop} {w : World} {t : Tr} {d : Ds} {x : AV} {u : Value} (h : Lv Zn w t d x u) (hz : ∀ k,Zn k→Z k) (ht : ∀ p k,t p = some k→Z k) : C3 Z w x u:=by
 induction h with
 | v h=>exact h.move (fun _ _=>rfl) hz
 | junk h=>exact .junk h
 | @own t e ds z sz xs u inner g h0 ho hr hl hc hv ih=>
  rcases ho.2 with ⟨rfl,hn⟩ | ⟨k,cap,cur,rfl,hg,hh,hnc,hcm,_⟩
  ·have hx : xs = []:=List.eq_nil_of_length_eq_zero hn
   subst hx
   exact ap6 h0
  ·refine .sl ⟨k,0,none⟩ g hnc (Nat.le_trans hnc (by simp only [maxLen] at hcm;omega)) h0 (fun _=>⟨rfl,ht [] k (hr▸rfl)⟩) hl (fun j x i lv hj hi=>ho.cells (g:=k) rfl _ _ (hc j x i lv hj hi)) (fun j x i lv hj hi=>ih j x i lv hj hi (fun p k h=>ht _ k h))
theorem bQ6 {Zf : Fl→Nat→Prop} {Z : Nat→Prop} {w : World} {ρ : Nat→Value} {bk : Nat→l9} {ds : List Ds} {t : Tr} {e sz : Nat} {v : Value} {xs : List AV} {z : Fl} (h : ai6 Zf w ρ bk false ds t e sz v xs) (hz : ∀ k,Zf .n k→Z k) (hv : ∀ k,M9 v = some k→Z k) (ht : ∀ i p k,t (i :: p) = some k→Z k) : C3 Z w (.sl z sz xs) v:=by
 obtain ⟨h0,inner,ho,hl,hr⟩:=h
 rcases ho.2 with ⟨rfl,hn⟩ | ⟨k,cap,cur,rfl,hg,hh,hnc,hcm,_⟩
 ·have hx : xs = []:=List.eq_nil_of_length_eq_zero hn
  subst hx
  exact ap6 h0
 ·have hcell : ∀ j x i lv,xs[j]? = some x→x.leaves[i]? = some lv→∃ u,w.cell? (Addr.add ⟨k,0,none⟩ (j * sz + i)) = some u∧C3 Z w lv u:=by
   intro j x i lv hj hi
   obtain ⟨u,hu,hv⟩:=hr j x i lv hj hi
   refine ⟨u,ho.cells (g:=k) rfl _ u hu,?_⟩
   rcases hv with hv | ⟨c,h1,_⟩
   ·exact hv.rep hz (fun p k h=>ht _ p k h)
   ·cases h1
  refine .sl ⟨k,0,none⟩ (fun j i=>(w.cell? (Addr.add ⟨k,0,none⟩ (j * sz + i))).getD undef) hnc (Nat.le_trans hnc (by simp only [maxLen] at hcm;omega)) h0 (fun _=>⟨rfl,hv k rfl⟩) hl (fun j x i lv hj hi=>?_) (fun j x i lv hj hi=>?_)
  ·obtain ⟨u,hu,_⟩:=hcell j x i lv hj hi
   rw [hu];rfl
  ·obtain ⟨u,hu,hv⟩:=hcell j x i lv hj hi
   rw [hu];exact hv
theorem bo4 {Zn Z : Nat→Prop} {w : World} {e sz lo n N c : Nat} {A : Option Addr} {xs : List AV} {z : Fl} (h : O7 Zn w e sz (.slice A N c) xs) (hle : lo + n≤N) (hz : ∀ k,Zn k→Z k) (ho : ∀ k,M9 (.slice A N c) = some k→Z k) : C3 Z w (.sl z sz ((xs.drop lo).take n)) (sliced A lo (lo + n) c sz):=by
 have hN : N = xs.length∧N≤c:=by
  obtain ⟨_,inner,hown,_⟩:=h
  rcases hown.2 with ⟨e1,e2⟩ | ⟨g,cap,cur,e1,_,_,hnc,_⟩
  ·injection e1 with _ e3 e4;omega
  ·injection e1 with _ e3 e4;omega
 have hlen : ((xs.drop lo).take n).length = n:=by simp;omega
 have hs:=aB0 (z:=z) h hz ho
 have get : ∀ {j x},((xs.drop lo).take n)[j]? = some x→xs[lo + j]? = some x:=by
  intro j x hj
  rw [List.getElem?_take] at hj
  split at hj
  ·rwa [List.getElem?_drop] at hj
  ·cases hj
 have e1 : sliced A lo (lo + n) c sz = .slice (if c = lo then A else A.map (·.add (lo * sz))) ((xs.drop lo).take n).length (c - lo):=by
  unfold sliced
  rw [hlen,Nat.add_sub_cancel_left]
 rw [e1]
 cases hs with
 | @sl _ _ _ _ _ ad f hc hm hz' hA hl hcell hrep=>
  by_cases hn : n = 0
  ·subst hn
   exact .sl ad f (by rw [hlen];omega) (by rw [hlen];omega) hz' (fun h=>by rw [hlen] at h;omega) (fun j x hj=>hl _ _ (get hj)) (fun j x i lv hj=>by simp at hj) (fun j x i lv hj=>by simp at hj)
  ·have hA':=hA (by omega)
   refine .sl (ad.add (lo * sz)) (fun j i=>f (lo + j) i) (by rw [hlen];omega) (by rw [hlen];omega) hz' (fun _=>⟨?_,by rw [al5];exact hA'.2⟩) (fun j x hj=>hl _ _ (get hj)) (fun j x i lv hj hi=>?_) (fun j x i lv hj hi=>hrep _ _ _ _ (get hj) hi)
   ·rw [if_neg (by omega),hA'.1];rfl
   ·rw [add_add,← hcell _ _ _ _ (get hj) hi]
    congr 2
    rw [Nat.add_mul]
    omega
theorem bJ6 {s : S} {I : List Nat} {up : Fl} {y x : l9} (h : ad3 (vwB s I up y x) = true) : ad3 x = true:=by
 cases x with
 | drow op ds e sz xs=>rfl
 | _=>exact h
theorem bs2 {s : S} {I : List Nat} {up : Fl} {y x : l9} (h : isD (vwB s I up y x) = true) : isD x = true:=by
 cases x with
 | drow op ds e sz xs=>rfl
 | _=>exact h
theorem bH8 {s : S} {I : List Nat} {up : Fl} {y x : l9} {op : Bool} {ds : List Ds} {e sz : Nat} {xs : List AV} (h : vwB s I up y x = .drow op ds e sz xs) : op = false∧x = .drow false ds e sz xs:=by
 cases x with
 | drow op' e' sz' xs'=>cases op' with
  | true=>cases h
  | false=>injection h with h1 h2 h3 h4 h5;subst h1;subst h2;subst h3;subst h4;subst h5;exact ⟨rfl,rfl⟩
 | _=>cases h
theorem bg8 {g : AV→AV} {x : l9} (h : ad3 (mpB g x) = true) : ad3 x = true:=by
 cases x with
 | drow op ds e sz xs=>rfl
 | _=>exact h
theorem aN2 {g : AV→AV} {x : l9} (h : isD (mpB g x) = true) : isD x = true:=by
 cases x with
 | drow op ds e sz xs=>rfl
 | _=>exact h
theorem bj2 {g : AV→AV} {x : l9} {op : Bool} {ds : List Ds} {e sz : Nat} {xs : List AV} (h : mpB g x = .drow op ds e sz xs) : op = false∧x = .drow false ds e sz xs:=by
 cases x with
 | drow op' e' sz' xs'=>cases op' with
  | true=>cases h
  | false=>injection h with h1 h2 h3 h4 h5;subst h1;subst h2;subst h3;subst h4;subst h5;exact ⟨rfl,rfl⟩
 | _=>cases h
theorem bb5 {g : AV→AV} {x : l9} (h : x≠.fresh) : mpB g x≠.fresh:=by
 cases x with
 | drow op ds e sz xs=>cases op <;> exact fun h=>by cases h
 | fresh=>exact absurd rfl h
 | _=>exact fun h=>by cases h
theorem bG1 {m : Nat→Nat} {x : l9} {op : Bool} {ds : List Ds} {e sz : Nat} {xs : List AV} (h : x = .drow op ds e sz xs) : ∃ ys,an0 m x = .drow op ds e sz ys∧(op = false→ys = xs):=by
 subst h
 cases op with
 | false=>exact ⟨_,rfl,fun _=>rfl⟩
 | true=>exact ⟨_,rfl,fun h=>by cases h⟩
theorem ai6.closed {Zf Zf' : Fl→Nat→Prop} {w : World} {ρ ρ' : Nat→Value} {bk bk' : Nat→l9} {ds : List Ds} {t : Tr} {e sz : Nat} {v : Value} {xs : List AV} (h : ai6 Zf w ρ bk false ds t e sz v xs) (hz : ∀ k,Zf .n k→Zf' .n k) : ai6 Zf' w ρ' bk' false ds t e sz v xs:=by
 obtain ⟨h0,inner,ho,hl,hc⟩:=h
 refine ⟨h0,inner,ho,hl,fun j x i lv hj hi=>?_⟩
 obtain ⟨u,hu,hv⟩:=hc j x i lv hj hi
 refine ⟨u,hu,?_⟩
 rcases hv with hv | ⟨c,h1,_⟩
 ·exact .inl (hv.move (fun k hk=>⟨rfl,hz k hk⟩) (fun _ _ _=>rfl))
 ·cases h1
end Go.Proofs.YtahmbcgolnplgaaGreatA
namespace Go.Proofs.YtahmbcgolnplgaaGreatA
open Go
def ixN : Nat→List Nat→Nat→Option Nat
 | _,[],_=>none
 | i,x :: r,c=>match Nat.beq c x with
  | true=>some i
  | false=>ixN (i + 1) r c
theorem aD8 : ∀ {l : List Nat} {i c k : Nat},ixN i l c = some k→i≤k∧l[k - i]? = some c
 | [],i,c,k,h=>by cases h
 | x :: r,i,c,k,h=>by
  have h' : (match Nat.beq c x with | true=>some i | false=>ixN (i + 1) r c) = some k:=h
  cases hb : Nat.beq c x with
  | true=>
   rw [hb] at h'
   injection h' with h'
   subst h'
   rw [Nat.sub_self,D6 hb]
   exact ⟨Nat.le_refl _,rfl⟩
  | false=>
   rw [hb] at h'
   obtain ⟨h1,h2⟩:=aD8 h'
   refine ⟨by omega,?_⟩
   rw [show k - i = (k - (i + 1)) + 1 by omega,List.getElem?_cons_succ]
   exact h2
theorem bh8 : ∀ {l : List Nat} {i c : Nat},ixN i l c = none→c ∉ l
 | [],i,c,_=>by simp
 | x :: r,i,c,h=>by
  have h' : (match Nat.beq c x with | true=>some i | false=>ixN (i + 1) r c) = none:=h
  cases hb : Nat.beq c x with
  | true=>rw [hb] at h';cases h'
  | false=>
   rw [hb] at h'
   have:=bh8 h'
   simp only [List.mem_cons,not_or]
   exact ⟨ad0 hb,this⟩
theorem aD9 : ∀ {l : List Nat},Q0 l = true→∀ {i j c : Nat},l[i]? = some c→l[j]? = some c→i = j
 | [],_,i,j,c,h,_=>by simp at h
 | x :: r,hn,i,j,c,h1,h2=>by
  have h' : (r.all (fun y=>!(Nat.beq x y)) && Q0 r) = true:=hn
  rw [Bool.and_eq_true] at h'
  have nk : x ∉ r:=fun hb=>by
   have:=List.all_eq_true.1 h'.1 x hb
   simp at this
  cases i with
  | zero=>
   cases j with
   | zero=>rfl
   | succ j=>
    simp only [List.getElem?_cons_zero,Option.some.injEq] at h1
    rw [List.getElem?_cons_succ] at h2
    subst h1
    exact absurd (List.mem_of_getElem? h2) nk
  | succ i=>
   cases j with
   | zero=>
    simp only [List.getElem?_cons_zero,Option.some.injEq] at h2
    rw [List.getElem?_cons_succ] at h1
    subst h2
    exact absurd (List.mem_of_getElem? h1) nk
   | succ j=>
    rw [List.getElem?_cons_succ] at h1 h2
    rw [aD9 h'.2 h1 h2]
theorem bD4 {l : List Nat} (hn : Q0 l = true) {j c : Nat} (h : l[j]? = some c) : ixN 0 l c = some j:=by
 cases hx : ixN 0 l c with
 | none=>exact absurd (List.mem_of_getElem? h) (bh8 hx)
 | some k=>
  obtain ⟨_,h1⟩:=aD8 hx
  rw [Nat.sub_zero] at h1
  rw [aD9 hn h1 h]
def ao9 : Nat→List (Nat×l9)→Bool
 | _,[]=>true
 | i,(j,_) :: r=>Nat.beq j i && ao9 (i + 1) r
theorem av2 : ∀ {l : List (Nat×l9)} {i : Nat},ao9 i l = true→∀ j,W7 l j = if i≤j then (l[j - i]?).map (·.2) else none
 | [],i,_,j=>by simp [W7]
 | (k,x) :: r,i,h,j=>by
  have h' : (Nat.beq k i && ao9 (i + 1) r) = true:=h
  rw [Bool.and_eq_true] at h'
  have hk:=D6 h'.1
  subst hk
  show (match Nat.beq j k with | true=>some x | false=>W7 r j) = _
  cases hb : Nat.beq j k with
  | true=>have:=D6 hb;subst this;simp
  | false=>
   have hne:=ad0 hb
   show W7 r j = _
   rw [av2 h'.2 j]
   by_cases hle : k≤j
   ·rw [if_pos (by omega),if_pos hle,show j - k = (j - (k + 1)) + 1 by omega,List.getElem?_cons_succ]
   ·rw [if_neg (by omega),if_neg hle]
def aS4 (s : S) (I : List Nat) (up : Fl) (m : Nat→Nat) : List (Nat×l9)→Prop
 | []=>True
 | (j,x) :: r=>vwB s I up x (gB s.bk (m j)) = an0 m x∧aS4 s I up m r
theorem aH7 {s : S} {I : List Nat} {up : Fl} {m : Nat→Nat} : ∀ {l : List (Nat×l9)},aS4 s I up m l→∀ {j x},(j,x) ∈ l→vwB s I up x (gB s.bk (m j)) = an0 m x
 | [],_,j,x,h=>by cases h
 | (i,y) :: r,h,j,x,hm=>by
  rcases List.mem_cons.1 hm with hm | hm
  ·injection hm with h1 h2;subst h1;subst h2;exact h.1
  ·exact aH7 h.2 hm
def av6 (s : S) : List Nat→Prop
 | []=>True
 | b :: r=>gB s.bk b = .fresh∧av6 s r
theorem aJ6 {s : S} : ∀ {l : List Nat},av6 s l→∀ b ∈ l,gB s.bk b = .fresh
 | [],_,b,h=>by cases h
 | x :: r,h,b,hb=>by
  rcases List.mem_cons.1 hb with hb | hb
  ·rw [hb];exact h.1
  ·exact aJ6 h.2 b hb
def aB4 : AV→Bool
 | .tup _=>false
 | _=>true
def mN (ids : List Nat) (far : Nat) (j : Nat) : Nat:=ids.getD j far
section
variable {P : Program} {Q : Exit→Act→World→Prop} {E : C5} {nt : Nat} {s : S}
theorem bM3 {fn : Func} {f : FuncId} {as : Array Operand} {ts : Array TypeId} {cf : Operand} {o : Oper} {ρ : Operand→Value} {cs : Array Value} (hop : o.op = .call { callee:=.value cf,args:=as,argTypes:=ts }) (hf : P.funcs[f]? = some fn) (hname : (fn.name == "runtime.NumGoroutine") = false) (hbody : fn.body.isSome = true) (hcf : ρ cf = .func (.func f) #[] cs) (w : World) :
 (execOp ρ o).run P w = .ok (.enter f (as.map ρ ++ cs)) w:=by
 have hb : ¬ fn.body = none:=by cases h : fn.body <;> simp_all
 have hn : ¬ fn.name = "runtime.NumGoroutine":=by simpa using hname
 unfold execOp
 simp [hop,hcf,resolve,Deferred.ofValue,invoke,callFunc,hf,hn,hb]
theorem bH7 {o : Oper} {fn : Func} {f : FuncId} {pre post : List (Nat×l9)} {args : List AV} {res : AV} {as : Array Operand} {ts : Array TypeId} {cf : Operand} {caps : List AV} {d : Option Nat} (ids : List Nat) (far : Nat) (up : Fl)
 (hc : j7 P f pre args post res) (hop : o.op = .call { callee:=.value cf,args:=as,argTypes:=ts }) (hcf : opd s cf = .fn f caps) (hf : P.funcs[f]? = some fn) (hname : (fn.name == "runtime.NumGoroutine") = false) (hbody : fn.body.isSome = true) (hd : o.dst = d) (hlt : ∀ e,d = some e→Nat.blt e nt = true)
 (hargs : ar7 (vw3 s (ids.take pre.length) up) args (as.toList.map (opd s) ++ caps) = args.map (aA9 (mN ids far))) (hnt : (as.toList.map (opd s) ++ caps).all aB4 = true) (hna : args.all aB4 = true) (hpre : aS4 s (ids.take pre.length) up (mN ids far) pre)
 (hfar : gB s.bk far = .fresh) (hfar2 : ids.contains far = false) (hkp : ao9 0 pre = true) (hkq : ao9 0 post = true) (hlen : Nat.beq ids.length post.length = true) (hle : Nat.ble pre.length post.length = true) (hnd : Q0 ids = true) (hnew : av6 s (ids.drop pre.length)) (hnp : X4 pre = true) (hnq : X4 post = true) :
 Owp P Q E nt o s ⟨d,mp4 (ae5 up (mN ids far)) res,post.map (fun p=>(mN ids far p.1,mpB (ae5 up (mN ids far)) p.2))⟩ (l8 cf ++ as.toList.flatMap l8) (far :: ids ++ ((as.toList.map (opd s) ++ caps).flatMap aM4 ++ (ids.take pre.length).flatMap (fun b=>bg2 (gB s.bk b)))):=by
 intro tm bk hag K a w ⟨ρ,Zn,hs⟩ hK
 have hlen:=D6 hlen
 have hle:=Nat.le_of_ble_eq_true hle
 have ao1 : ∀ {j : Nat},j < ids.length→ids[j]? = some (mN ids far j):=fun {j} hj=>by
  unfold mN;rw [List.getD_eq_getElem?_getD,List.getElem?_eq_getElem hj];rfl
 have memM : ∀ {j : Nat},j < ids.length→mN ids far j ∈ ids:=fun hj=>List.mem_of_getElem? (ao1 hj)
 have farM : ∀ {j : Nat},¬ j < ids.length→mN ids far j = far:=fun {j} hj=>by
  unfold mN;rw [List.getD_eq_getElem?_getD,List.getElem?_eq_none (by omega)];rfl
 have injM : ∀ {i j : Nat},i < ids.length→j < ids.length→mN ids far i = mN ids far j→i = j:=fun {i j} hi hj e=>aD9 hnd (ao1 hi) (e▸ao1 hj)
 have bkI : ∀ {b : Nat},b ∈ ids→bk b = gB s.bk b:=fun hb=>hag.2 _ (List.mem_append_left _ (List.mem_cons_of_mem _ hb))
 have bkFar : bk far = .fresh:=(hag.2 _ (List.mem_append_left _ List.mem_cons_self)).trans hfar
 have gpre : ∀ j,gB pre j = match (pre[j]?).map (·.2) with | some b=>b | none=>.fresh:=fun j=>by unfold gB;rw [av2 hkp j,if_pos (Nat.zero_le _),Nat.sub_zero] <;> rfl
 have gpost : ∀ j,gB post j = match (post[j]?).map (·.2) with | some b=>b | none=>.fresh:=fun j=>by unfold gB;rw [av2 hkq j,if_pos (Nat.zero_le _),Nat.sub_zero] <;> rfl
 have preN : ∀ {j : Nat},j < pre.length→gB pre j≠.fresh:=fun {j} hj=>by
  refine aj7 hnp j ?_
  cases hx : W7 pre j with
  | none=>rw [av2 hkp j,if_pos (Nat.zero_le _),Nat.sub_zero,List.getElem?_eq_getElem hj] at hx;cases hx
  | some b=>
   by_cases hm : j ∈ pre.map (·.1)
   ·exact hm
   ·rw [ap2 hm] at hx;cases hx
 have postN : ∀ {j : Nat},j < post.length→gB post j≠.fresh:=fun {j} hj=>by
  refine aj7 hnq j ?_
  cases hx : W7 post j with
  | none=>rw [av2 hkq j,if_pos (Nat.zero_le _),Nat.sub_zero,List.getElem?_eq_getElem hj] at hx;cases hx
  | some b=>
   by_cases hm : j ∈ post.map (·.1)
   ·exact hm
   ·rw [ap2 hm] at hx;cases hx
 have preF : ∀ {j : Nat},gB pre j≠.fresh→j < pre.length:=fun {j} h=>by
  rcases Nat.lt_or_ge j pre.length with hj | hj
  ·exact hj
  ·rw [gpre,List.getElem?_eq_none hj] at h;exact absurd rfl h
 have az0 : ∀ {j : Nat},gB post j≠.fresh→j < post.length:=fun {j} h=>by
  rcases Nat.lt_or_ge j post.length with hj | hj
  ·exact hj
  ·rw [gpost,List.getElem?_eq_none hj] at h;exact absurd rfl h
 have newM : ∀ {j : Nat},¬ j < pre.length→j < ids.length→bk (mN ids far j) = .fresh:=fun {j} h1 h2=>by
  rw [bkI (memM h2)]
  refine aJ6 hnew _ ?_
  refine List.mem_of_getElem? (i:=j - pre.length) ?_
  rw [List.getElem?_drop,show pre.length + (j - pre.length) = j by omega]
  exact ao1 h2
 have memI : ∀ {b : Nat},b ∈ ids.take pre.length↔∃ j,j < pre.length∧mN ids far j = b:=fun {b}=>by
  constructor
  ·intro h
   obtain ⟨j,hj,hb⟩:=List.getElem_of_mem h
   have hj1 : j < pre.length:=by simp at hj;omega
   refine ⟨j,hj1,?_⟩
   have:=ao1 (j:=j) (by omega)
   rw [List.getElem_take] at hb
   rw [List.getElem?_eq_getElem (by omega)] at this
   injection this with this
   rw [← this,hb]
  ·rintro ⟨j,hj,rfl⟩
   refine List.mem_of_getElem? (i:=j) ?_
   rw [List.getElem?_take,if_pos hj]
   exact ao1 (by omega)
 obtain ⟨ω,dd⟩:=hs.deep
 let E' : C5:={ W0:=w,Z0:=fun k=>k < w.heap.size∧∀ j,j < pre.length→¬ K4 ρ ω bk (mN ids far j) k,Zi:=Zn,Zy:=fz E Zn up,ρ0:=fun j=>if j < pre.length then some (ρ (mN ids far j)) else none }
 have z0' : ∀ k,E.Z0 k→E'.Z0 k:=fun k hk=>⟨Nat.lt_of_lt_of_le (hs.z0 k hk) hs.size,fun j _ ho=>(dd.out _ k ho).1 hk⟩
 have zn' : ∀ k,Zn k→E'.Z0 k:=fun k hk=>⟨(hs.zn k hk).1,fun j _ ho=>(dd.out _ k ho).2 hk⟩
 have zo' : ∀ z k,fz E Zn z k→E'.Z0 k:=fun z k hk=>by
  cases z with
  | o=>rcases hk with hk | hk
       ·exact z0' k hk
       ·exact zn' k hk
  | n=>exact zn' k hk
  | u=>exact z0' k (hs.zy k hk)
 have HV : Vw (fz E Zn) (fz E' Zn) w ρ bk (ids.take pre.length) up:=by
  have ownZD : ∀ b k,b ∉ ids.take pre.length→K4 ρ ω bk b k→E'.Z0 k:=fun b k hb ho=>⟨dd.lt b k ho,fun j hj ho'=>hb (memI.2 ⟨j,hj,(dd.sep _ _ k ho ho').symm⟩)⟩
  have ownZ : ∀ b k,b ∉ ids.take pre.length→O9 ρ bk b k→E'.Z0 k:=fun b k hb ho=>ownZD b k hb ho.deep
  refine ⟨fun b e sz xs hb hbk=>?_,fun b ds e sz xs hb hbk=>?_,fun b e sz xs lo n A N c hb hbk hr hle=>?_,fun z k hf hk=>?_,fun z k hk=>.inl (zo' z k hk)⟩
  ·have hblk:=hs.blk b
   rw [hbk] at hblk
   exact aB0 hblk (fun k hk=>.inr hk) (fun k hk=>.inl (ownZ b k hb ⟨by rw [hbk];rfl,hk⟩))
  ·have hlive : ad3 (bk b) = true:=by rw [hbk];rfl
   exact bQ6 (dd.row b _ _ _ _ _ hbk) (fun k hk=>.inr hk) (fun k hk=>.inl (ownZD b k hb ⟨hlive,.inl hk⟩)) (fun i p k ht=>.inl (ownZD b k hb ⟨hlive,.inr ⟨by rw [hbk];rfl,i,p,ht⟩⟩))
  ·have hblk:=hs.blk b
   rw [hbk,hr] at hblk
   exact bo4 hblk hle (fun k hk=>.inr hk) (fun k hk=>.inl (ownZ b k hb ⟨by rw [hbk];rfl,by rw [hr];exact hk⟩))
  ·show fz E Zn up k
   cases up <;> cases z <;> first | (cases hf;done) | exact hk | exact .inr hk | exact .inl (hs.zy k hk)
 have hren : ∀ b,bk (mN ids far b)≠.fresh→gB pre b≠.fresh:=fun b hb=>by
  by_cases h1 : b < pre.length
  ·exact preN h1
  ·by_cases h2 : b < ids.length
   ·exact absurd (newM h1 h2) hb
   ·rw [farM h2] at hb;exact absurd bkFar hb
 have bkP : ∀ {j : Nat},j < pre.length→∃ x,pre[j]? = some (j,x)∧gB pre j = x:=fun {j} hj=>by
  have hx : pre[j]? = some pre[j]:=List.getElem?_eq_getElem hj
  have hk : (pre[j]).1 = j:=by
   have key : ∀ {l : List (Nat×l9)} {i j : Nat} {p : Nat×l9},ao9 i l = true→l[j]? = some p→p.1 = i + j:=by
    intro l
    induction l with
    | nil=>intro i j p _ h;simp at h
    | cons q r ih=>
     intro i j p h hp
     obtain ⟨k,x⟩:=q
     have h' : (Nat.beq k i && ao9 (i + 1) r) = true:=h
     rw [Bool.and_eq_true] at h'
     cases j with
     | zero=>simp only [List.getElem?_cons_zero,Option.some.injEq] at hp;subst hp;exact D6 h'.1
     | succ j=>have:=ih h'.2 (by simpa using hp);omega
   have:=key hkp hx
   omega
  refine ⟨(pre[j]).2,?_,?_⟩
  ·rw [hx];congr 1;exact Prod.ext hk rfl
  ·rw [gpre,hx];rfl
 have bkQ : ∀ {j : Nat},j < post.length→∃ x,post[j]? = some (j,x)∧gB post j = x:=fun {j} hj=>by
  have hx : post[j]? = some post[j]:=List.getElem?_eq_getElem hj
  have hk : (post[j]).1 = j:=by
   have key : ∀ {l : List (Nat×l9)} {i j : Nat} {p : Nat×l9},ao9 i l = true→l[j]? = some p→p.1 = i + j:=by
    intro l
    induction l with
    | nil=>intro i j p _ h;simp at h
    | cons q r ih=>
     intro i j p h hp
     obtain ⟨k,x⟩:=q
     have h' : (Nat.beq k i && ao9 (i + 1) r) = true:=h
     rw [Bool.and_eq_true] at h'
     cases j with
     | zero=>simp only [List.getElem?_cons_zero,Option.some.injEq] at hp;subst hp;exact D6 h'.1
     | succ j=>have:=ih h'.2 (by simpa using hp);omega
   have:=key hkq hx
   omega
  refine ⟨(post[j]).2,?_,?_⟩
  ·rw [hx];congr 1;exact Prod.ext hk rfl
  ·rw [gpost,hx];rfl
 have vwBk : ∀ {j : Nat},j < pre.length→R3 (fz E' Zn) w (fun b=>ρ (mN ids far b)) (gB pre) (ρ (mN ids far j)) (gB pre j):=fun {j} hj=>by
  obtain ⟨x,hx,hg⟩:=bkP hj
  have hv:=aH7 hpre (List.mem_of_getElem? hx)
  have hI : mN ids far j ∈ ids.take pre.length:=memI.2 ⟨j,hj,rfl⟩
  have h1:=hs.blk (mN ids far j)
  rw [bkI (memM (by omega))] at h1
  have h2:=bX3 (s:=s) (y:=x) HV (fun k hk=>hk) (fun b hb=>hag.2 b (List.mem_append_right _ (List.mem_append_right _ (List.mem_flatMap.2 ⟨_,hI,hb⟩)))) h1
  rw [hv] at h2
  rw [hg]
  exact R3.ren hren h2
 have hp : Hp E' (fun b=>ρ (mN ids far b)) E'.Zi (gB pre) E'.W0:=by
  have getB : ∀ b,ad3 (gB pre b) = true→b < pre.length∧vwB s (ids.take pre.length) up ((pre[b]?.map (·.2)).getD .fresh) (bk (mN ids far b)) = an0 (mN ids far) (gB pre b):=fun b hl=>by
   have hb : b < pre.length:=preF (fun e=>by rw [e] at hl;cases hl)
   obtain ⟨x,hx,hg⟩:=bkP hb
   have hv:=aH7 hpre (List.mem_of_getElem? hx)
   refine ⟨hb,?_⟩
   rw [hx,hg,bkI (memM (by omega))]
   exact hv
  have get : ∀ b k,K4 (fun b=>ρ (mN ids far b)) (fun b=>ω (mN ids far b)) (gB pre) b k→b < pre.length∧K4 ρ ω bk (mN ids far b) k:=by
   intro b k ho
   obtain ⟨hb,hv⟩:=getB b ho.1
   refine ⟨hb,bJ6 (by rw [hv,aP3];exact ho.1),?_⟩
   rcases ho.2 with h | ⟨h,h'⟩
   ·exact .inl h
   ·exact .inr ⟨bs2 (by rw [hv,aK1];exact h),h'⟩
  refine ⟨rfl,rfl,rfl,Nat.le_refl _,fun k hk=>hk.1,fun k hk=>rfl,fun k hk=>hk,fun k hk=>?_,fun k hk=>⟨(hs.zn k hk).1,.inl hk⟩,fun b v hv=>?_,fun b=>?_,⟨fun b=>ω (mN ids far b),fun b op ds e sz xs hbk=>?_,fun b hbk=>?_,fun b k ho=>?_,fun b k ho=>?_,fun b b' k ho ho'=>?_⟩,rfl,rfl,fun i=>.inl rfl⟩
  ·exact zo' up k hk
  ·by_cases hb : b < pre.length
   ·have hv' : (if b < pre.length then some (ρ (mN ids far b)) else none) = some v:=hv
    rw [if_pos hb] at hv'
    injection hv' with hv'
    exact ⟨preN hb,hv'⟩
   ·have hv' : (if b < pre.length then some (ρ (mN ids far b)) else none) = some v:=hv
    rw [if_neg hb] at hv';cases hv'
  ·by_cases hb : b < pre.length
   ·exact vwBk hb
   ·have : gB pre b = .fresh:=by rw [gpre,List.getElem?_eq_none (by omega)];rfl
    rw [this];trivial
  ·obtain ⟨hb,hv⟩:=getB b (by rw [hbk];rfl)
   obtain ⟨ys,hy,hy2⟩:=bG1 (m:=mN ids far) hbk
   obtain ⟨h1,h2⟩:=bH8 (hv.trans hy)
   subst h1
   rw [hy2 rfl] at h2
   exact (dd.row _ _ _ _ _ _ h2).closed (fun k hk=>hk)
  ·obtain ⟨hb,hv⟩:=getB b (by revert hbk;cases gB pre b <;> first | exact fun _=>rfl | (intro h;cases h))
   exact dd.tree _ (bs2 (by rw [hv,aK1];exact hbk))
  ·exact dd.lt _ k (get b k ho).2
  ·obtain ⟨hb,ho'⟩:=get b k ho
   exact ⟨fun hz=>hz.2 b hb ho',(dd.out _ k ho').2⟩
  ·have h1:=get b k ho
   have h2:=get b' k ho'
   exact injM (by omega) (by omega) (dd.sep _ _ k h1.2 h2.2)
 have hcf':=St.opd (s:=s) hs cf (fun t ht=>hag.1 t (List.mem_append_left _ ht))
 rw [hcf] at hcf'
 obtain ⟨cs,hcv,hcaps⟩:=bV7 hcf'
 have hvals : Fa (G9 (fz E Zn) w ρ bk) (as.toList.map (opd s) ++ caps) (as.toList.map a.eval ++ cs):=by
  refine Fa.append ⟨by simp,fun i x v hx hv=>?_⟩ (hcaps.imp fun _ _ h=>?_)
  ·rw [List.getElem?_map] at hx hv
   obtain ⟨q,hq,rfl⟩:=Option.map_eq_some_iff.1 hx
   rw [hq] at hv
   injection hv with hv
   subst hv
   exact St.opd hs q (fun t ht=>hag.1 t (List.mem_append_right _ (List.mem_flatMap.2 ⟨q,List.mem_of_getElem? hq,ht⟩)))
  ·rcases h with h | ⟨l,cs,h1,h2,h3⟩
   ·exact O5 (.inl h)
   ·exact .inr (.inr (.inl (.inr ⟨l,cs,h1,h2,h3.imp fun _ _ h=>.inl h⟩)))
 have hargs' : Fa (G9 (fz E' Zn) w (fun b=>ρ (mN ids far b)) (gB pre)) args (as.toList.map a.eval ++ cs):=by
  have h1 : Fa (G9 (fz E' Zn) w ρ bk) (ar7 (vw3 s (ids.take pre.length) up) args (as.toList.map (opd s) ++ caps)) (as.toList.map a.eval ++ cs):=by
   refine ax1 hvals (fun x hx y v hv=>bP1 HV (fun b hb=>hag.2 b (List.mem_append_right _ (List.mem_append_left _ (List.mem_flatMap.2 ⟨x,hx,hb⟩)))) hv (fun l e=>?_))
   have:=List.all_eq_true.1 hnt x hx
   rw [e] at this;cases this
  rw [hargs] at h1
  have h2:=Fa.map_left.1 h1
  refine ⟨h2.1,fun i x v hxi hvi=>?_⟩
  have h : G9 (fz E' Zn) w ρ bk (aA9 (mN ids far) x) v:=h2.2 i x v hxi hvi
  have e : aH3 (mN ids far) x = aA9 (mN ids far) x:=by
   have:=List.all_eq_true.1 hna x (List.mem_of_getElem? hxi)
   cases x <;> first | rfl | cases this
  rw [← e] at h
  exact G9.ren hren h
 have hcall:=hc E' (fun b=>ρ (mN ids far b)) (as.toList.map a.eval ++ cs) hp (fun b v hv=>by
  have hv' : (if b < pre.length then some (ρ (mN ids far b)) else none) = some v:=hv
  by_cases hb : b < pre.length
  ·exact hb
  ·rw [if_neg hb] at hv';cases hv') hargs'
 unfold Oper.wp
 rw [bM3 (P:=P) (cs:=cs.toArray) hop hf hname hbody hcv w,Oper.upon_enter]
 have eargs : (as.toList.map a.eval ++ cs).toArray = as.map a.eval ++ cs.toArray:=by
  apply Array.ext'
  simp
 rw [eargs] at hcall
 refine hcall.mono (fun e w' hl=>?_)
 obtain ⟨v,ρ',Zn',rfl,hp',hres⟩:=hl
 refine hK _ _ ?_
 rw [hd]
 let ρn : Nat→Value:=fun c=>match ixN 0 ids c with
  | some j=>ρ' j
  | none=>ρ c
 let ups:=post.map (fun p=>(mN ids far p.1,mpB (ae5 up (mN ids far)) p.2))
 have ukeys : ups.map (·.1) = ids:=by
  apply List.ext_getElem?
  intro j
  rw [List.map_map,List.getElem?_map]
  by_cases hj : j < post.length
  ·obtain ⟨x,hx,_⟩:=bkQ hj
   rw [hx,ao1 (by omega)];rfl
  ·rw [List.getElem?_eq_none (by omega),List.getElem?_eq_none (by omega)];rfl
 have gmem : ∀ {l : List (Nat×l9)} {k : Nat} {x : l9},Q0 (l.map (·.1)) = true→(k,x) ∈ l→W7 l k = some x:=by
  intro l
  induction l with
  | nil=>intro k x _ h;cases h
  | cons p r ih=>
   intro k x hn h
   obtain ⟨q,y⟩:=p
   have h' : ((r.map (·.1)).all (fun y=>!(Nat.beq q y)) && Q0 (r.map (·.1))) = true:=hn
   rw [Bool.and_eq_true] at h'
   show (match Nat.beq k q with | true=>some y | false=>W7 r k) = some x
   rcases List.mem_cons.1 h with e | e
   ·injection e with h1 h2;subst h1;subst h2
    rw [Nat.beq_refl]
   ·have hne : Nat.beq k q = false:=by
     cases hb : Nat.beq k q with
     | false=>rfl
     | true=>
      have:=D6 hb
      subst this
      have:=List.all_eq_true.1 h'.1 k (List.mem_map.2 ⟨(k,x),e,rfl⟩)
      simp at this
    rw [hne]
    exact ih h'.2 e
 have up1 : ∀ {j : Nat},j < post.length→O0 bk ups (mN ids far j) = mpB (ae5 up (mN ids far)) (gB post j):=fun {j} hj=>by
  obtain ⟨x,hx,hg⟩:=bkQ hj
  unfold O0
  rw [gmem (l:=ups) (x:=mpB (ae5 up (mN ids far)) x) (by rw [ukeys];exact hnd) (List.mem_map.2 ⟨_,List.mem_of_getElem? hx,rfl⟩),hg]
 have up2 : ∀ {c : Nat},c ∉ ids→O0 bk ups c = bk c:=fun {c} hc=>by
  unfold O0
  rw [ap2 (by rw [ukeys];exact hc)]
 have rn1 : ∀ {j : Nat},j < post.length→ρn (mN ids far j) = ρ' j:=fun {j} hj=>by
  show (match ixN 0 ids (mN ids far j) with | some j=>ρ' j | none=>ρ (mN ids far j)) = ρ' j
  rw [bD4 hnd (ao1 (by omega))]
 have rn2 : ∀ {c : Nat},c ∉ ids→ρn c = ρ c:=fun {c} hc=>by
  show (match ixN 0 ids c with | some j=>ρ' j | none=>ρ c) = ρ c
  cases hx : ixN 0 ids c with
  | none=>rfl
  | some k=>
   obtain ⟨_,h1⟩:=aD8 hx
   exact absurd (List.mem_of_getElem? h1) hc
 obtain ⟨ω',d'⟩:=hp'.deep
 let ωn : Nat→Tr:=fun c=>match ixN 0 ids c with
  | some j=>ω' j
  | none=>ω c
 have wn1 : ∀ {j : Nat},j < post.length→ωn (mN ids far j) = ω' j:=fun {j} hj=>by
  show (match ixN 0 ids (mN ids far j) with | some j=>ω' j | none=>ω (mN ids far j)) = ω' j
  rw [bD4 hnd (ao1 (by omega))]
 have wn2 : ∀ {c : Nat},c ∉ ids→ωn c = ω c:=fun {c} hc=>by
  show (match ixN 0 ids c with | some j=>ω' j | none=>ω c) = ω c
  cases hx : ixN 0 ids c with
  | none=>rfl
  | some k=>
   obtain ⟨_,h1⟩:=aD8 hx
   exact absurd (List.mem_of_getElem? h1) hc
 have getIds : ∀ {c : Nat},c ∈ ids→∃ j,j < post.length∧mN ids far j = c:=fun {c} hc=>by
  obtain ⟨j,hj,hb⟩:=List.getElem_of_mem hc
  refine ⟨j,by omega,?_⟩
  have:=ao1 hj
  rw [List.getElem?_eq_getElem hj,hb] at this
  injection this with this
  exact this.symm
 have rhoOld : ∀ {j : Nat},j < pre.length→ρ' j = ρ (mN ids far j):=fun {j} hj=>(hp'.fix j (ρ (mN ids far j)) (if_pos hj)).2
 have HB : Bw (fz E' Zn') (fz E Zn') ρ' ρn (gB post) (O0 bk ups) (mN ids far) up:=by
  refine ⟨fun k hk=>hk,fun k hk=>?_,fun b hb=>?_⟩
  ·have hk' : fz E Zn up k:=hk
   cases up with
   | o=>rcases hk' with h | h
        ·exact .inl h
        ·exact .inr (hp'.zi k h)
   | n=>exact hp'.zi k hk'
   | u=>exact hk'
  ·have hj:=az0 hb
   refine ⟨?_,rn1 hj⟩
   rw [up1 hj]
   exact bb5 hb
 have ownNew : ∀ {c k : Nat},c ∈ ids→K4 ρn ωn (O0 bk ups) c k→∃ j,j < post.length∧mN ids far j = c∧K4 ρ' ω' (gB post) j k:=fun {c k} hc ho=>by
  obtain ⟨j,hj,rfl⟩:=getIds hc
  have h1:=ho.1
  have h2:=ho.2
  rw [up1 hj] at h1 h2
  rw [rn1 hj,wn1 hj] at h2
  exact ⟨j,hj,rfl,bg8 h1,h2.imp id fun h=>⟨aN2 h.1,h.2⟩⟩
 refine ⟨ρn,Zn',hs.updD dd ωn (fun c=>c ∈ ids) hp'.os hp'.tape hp'.output hp'.size (fun k hk ho=>?_) (fun c hc=>rn2 hc) (fun c hc=>up2 hc) (fun c hc=>wn2 hc) (fun c hc hne=>?_) (fun k hk=>hp'.zi k hk) (fun k hk=>?_) (fun c hc m=>?_) (fun c op ds e sz xs hc m hbk=>?_) (fun c hc hbk=>?_) (fun c k hc ho=>?_) (fun c k hc ho _=>?_) (fun c c' k hc hc' ho ho'=>?_) (aS9 _ _ _) (bn8 _ _ _) (fun i=>?_)⟩
 ·exact hp'.keep k ⟨hk,fun j hj=>ho _ (memM (by omega))⟩
 ·obtain ⟨j,hj,rfl⟩:=getIds hc
  have hj2 : j < pre.length:=by
   rcases Nat.lt_or_ge j pre.length with h | h
   ·exact h
   ·exact absurd (newM (by omega) (by omega)) hne
  exact ⟨(HB.ids j (postN hj)).1,(rn1 hj).trans (rhoOld hj2)⟩
 ·rcases (hp'.zn k hk).2 with h | h
  ·exact .inl h
  ·refine .inr ⟨(hp'.zn k hk).1,?_⟩
   rcases Nat.lt_or_ge k w.heap.size with hlt | hge
   ·right
    by_cases hx : ∃ j,j < pre.length∧K4 ρ ω bk (mN ids far j) k
    ·obtain ⟨j,hj,ho⟩:=hx
     exact ⟨_,memM (by omega),ho⟩
    ·exact absurd ⟨hlt,fun j hj ho=>hx ⟨j,hj,ho⟩⟩ h
   ·exact .inl hge
 ·obtain ⟨j,hj,rfl⟩:=getIds hc
  rw [rn1 hj,up1 hj]
  exact bS1 HB (hp'.blk j)
 ·obtain ⟨j,hj,rfl⟩:=getIds hc
  rw [up1 hj] at hbk
  rw [rn1 hj,wn1 hj]
  obtain ⟨rfl,h2⟩:=bj2 hbk
  exact (d'.row j _ _ _ _ _ h2).closed (fun k hk=>hk)
 ·obtain ⟨j,hj,rfl⟩:=getIds hc
  rw [up1 hj] at hbk
  rw [rn1 hj,wn1 hj]
  exact d'.tree j (aN2 hbk)
 ·obtain ⟨j,hj,rfl,ho'⟩:=ownNew hc ho
  obtain ⟨h1,h2⟩:=d'.out j k ho'
  refine ⟨?_,h2⟩
  rcases Nat.lt_or_ge k w.heap.size with hlt | hge
  ·right
   by_cases hx : ∃ j,j < pre.length∧K4 ρ ω bk (mN ids far j) k
   ·obtain ⟨j,hj,ho⟩:=hx
    exact ⟨_,memM (by omega),ho⟩
   ·exact absurd ⟨hlt,fun j hj ho=>hx ⟨j,hj,ho⟩⟩ h1
  ·exact .inl hge
 ·obtain ⟨j,hj,rfl,ho'⟩:=ownNew hc ho
  exact d'.lt j k ho'
 ·obtain ⟨j,hj,rfl,h1⟩:=ownNew hc ho
  obtain ⟨j',hj',rfl,h2⟩:=ownNew hc' ho'
  rw [d'.sep j j' k h1 h2]
 ·cases d with
  | none=>exact .inl ⟨rfl,rfl⟩
  | some e=>
   have he : e < a.tmps.size:=by rw [hs.ntmps];exact Nat.blt_eq▸hlt e rfl
   rw [bo5 he]
   by_cases hi : i = e
   ·right
    intro m
    show G9 (fz E Zn') w' ρn (O0 bk ups) (if i = e then _ else tm i) (if i = e then v else _)
    rw [if_pos hi,if_pos hi]
    exact bS6 HB hres
   ·left
    show (if i = e then _ else tm i) = tm i∧_
    rw [if_neg hi,if_neg hi]
    exact ⟨rfl,rfl⟩
end
end Go.Proofs.YtahmbcgolnplgaaGreatA
