/- An abstract machine of values: what a frame and a world mean as lists and numbers, and that this meaning stays when memory grows. No claim lies here. -/
import Derived.Orders
import Derived.Tactics
import Derived.KernelRfl
import Derived.Laws.AppendOwn
import Derived.Laws.Slices
set_option linter.unusedVariables false
set_option linter.unusedSimpArgs false
namespace Go.Proofs.YtahmbcgolnplgaaDoorA
open Go
/-- The bytes' type. -/
def byteT : TypeId := 5
/-- A block of cells, none of which is frozen: of bytes a range may lie past them. -/
def heapR (w : World) (g : Nat) (cur : Array Value) (e : TypeId) : Prop := ∃ fz : Nat × Nat, w.heap[g]? = some (.cells cur e fz) ∧ (fz = (0, 0) ∨ cur.size ≤ fz.1 ∧ e = byteT)
/-- A row that is the call's own; its block may be marked past its cells. -/
def ownsR (w : World) (base : Nat) (e : TypeId) (size : Nat) (v : Value) (n : Nat) (xs : List Value) : Prop := xs.length = n * size ∧ ((v = .slice none 0 0 ∧ n = 0) ∨ ∃ g cap cur, v = .slice (some ⟨g, 0, none⟩) n cap ∧ base ≤ g ∧ heapR w g cur e ∧ n ≤ cap ∧ cap ≤ maxLen ∧ cur.size = cap * size ∧ cur.toList.take (n * size) = xs)
section
variable {w : World} {base : Nat} {e : TypeId} {size : Nat} {v : Value} {n : Nat} {xs : List Value}
theorem heapR.lt {g : Nat} {cur : Array Value} (h : heapR w g cur e) : g < w.heap.size := h.elim fun _ h => (Array.getElem?_eq_some_iff.1 h.1).1
theorem heapR.kept {w' : World} {g : Nat} {cur : Array Value} (h : heapR w g cur e) (hk : w'.heap[g]? = w.heap[g]?) : heapR w' g cur e := h.elim fun fz h => ⟨fz, hk.trans h.1, h.2⟩
theorem ownsR.of (h : w.ownsRow base e size v n xs) : ownsR w base e size v n xs := by
  refine ⟨h.1, ?_⟩
  rcases h.2 with h | ⟨g, cap, cur, hv, hb, hg, rest⟩
  · exact .inl h
  · exact .inr ⟨g, cap, cur, hv, hb, ⟨(0, 0), hg, .inl rfl⟩, rest⟩
theorem ownsR_nil (w : World) (base : Nat) (e : TypeId) (size : Nat) : ownsR w base e size (.slice none 0 0) 0 [] := ⟨by simp, .inl ⟨rfl, rfl⟩⟩
theorem ownsR.lt (h : ownsR w base e size v n xs) : ∀ k, v.ownBlock = some k → base ≤ k ∧ k < w.heap.size := by
  intro k hk
  rcases h.2 with ⟨rfl, _⟩ | ⟨g, cap, cur, rfl, hb, hg, _⟩
  · simp [Value.ownBlock] at hk
  · simp [Value.ownBlock] at hk
    subst hk
    exact ⟨hb, hg.lt⟩
theorem ownsR.cells (h : ownsR w base e size v n xs) {g : Nat} (hg : v.ownBlock = some g) : ∀ j u, xs[j]? = some u → w.cell? ((⟨g, 0, none⟩ : Addr).add j) = some u := by
  intro j u hu
  rcases h.2 with ⟨rfl, _⟩ | ⟨g', cap, cur, rfl, _, ⟨fz, hgg, _⟩, _, _, _, htake⟩
  · simp [Value.ownBlock] at hg
  · simp [Value.ownBlock] at hg
    subst hg
    have hadd : (⟨g', 0, none⟩ : Addr).add j = ⟨g', j, none⟩ := by unfold Addr.add; split <;> simp_all
    rw [hadd, cell_of_row w g' j cur e fz hgg]
    rw [← htake, List.getElem?_take] at hu
    split at hu
    · simpa using hu
    · cases hu
end

/-- Two lists, matched place by place. -/
def Fa {α β : Type} (R : α → β → Prop) (l : List α) (m : List β) : Prop := l.length = m.length ∧ ∀ (i : Nat) (a : α) (b : β), l[i]? = some a → m[i]? = some b → R a b
theorem Fa.imp {α β : Type} {R S : α → β → Prop} {l : List α} {m : List β} (h : Fa R l m) (f : ∀ a b, R a b → S a b) : Fa S l m := ⟨h.1, fun i a b ha hb => f a b (h.2 i a b ha hb)⟩
theorem Fa.get {α β : Type} {R : α → β → Prop} {l : List α} {m : List β} (h : Fa R l m) {i : Nat} {a : α} (ha : l[i]? = some a) : ∃ b, m[i]? = some b ∧ R a b := by
  have hi : i < m.length := by rw [← h.1]; exact (List.getElem?_eq_some_iff.1 ha).1
  exact ⟨m[i], List.getElem?_eq_getElem hi, h.2 i a _ ha (List.getElem?_eq_getElem hi)⟩
theorem Fa.get' {α β : Type} {R : α → β → Prop} {l : List α} {m : List β} (h : Fa R l m) {i : Nat} {b : β} (hb : m[i]? = some b) : ∃ a, l[i]? = some a ∧ R a b := by
  have hi : i < l.length := by rw [h.1]; exact (List.getElem?_eq_some_iff.1 hb).1
  exact ⟨l[i], List.getElem?_eq_getElem hi, h.2 i _ b (List.getElem?_eq_getElem hi) hb⟩
theorem Fa.nil {α β : Type} {R : α → β → Prop} : Fa R [] [] := ⟨rfl, fun i a b h => by simp at h⟩
theorem Fa.cons {α β : Type} {R : α → β → Prop} {a : α} {b : β} {l : List α} {m : List β} (h : R a b) (t : Fa R l m) : Fa R (a :: l) (b :: m) := by
  refine ⟨by simp [t.1], fun i x y hx hy => ?_⟩
  cases i with
  | zero => simp at hx hy; subst hx; subst hy; exact h
  | succ i => exact t.2 i x y (by simpa using hx) (by simpa using hy)
theorem Fa.uncons {α β : Type} {R : α → β → Prop} {a : α} {l : List α} {m : List β} (h : Fa R (a :: l) m) : ∃ b m', m = b :: m' ∧ R a b ∧ Fa R l m' := by
  cases m with
  | nil => exact absurd h.1 (by simp)
  | cons b m' => exact ⟨b, m', rfl, h.2 0 a b rfl rfl, by simpa using h.1, fun i x y hx hy => h.2 (i + 1) x y (by simpa using hx) (by simpa using hy)⟩
theorem Fa.unnil {α β : Type} {R : α → β → Prop} {m : List β} (h : Fa R [] m) : m = [] := List.eq_nil_of_length_eq_zero h.1.symm
theorem Fa.set {α β : Type} {R : α → β → Prop} {l : List α} {m : List β} (h : Fa R l m) (i : Nat) {a : α} {b : β} (hab : R a b) : Fa R (l.set i a) (m.set i b) := by
  refine ⟨by simp [h.1], fun j x y hx hy => ?_⟩
  rw [List.getElem?_set] at hx hy
  by_cases e : i = j
  · subst e
    rw [if_pos rfl] at hx hy
    split at hx
    · split at hy
      · injection hx with hx; injection hy with hy; subst hx; subst hy; exact hab
      · cases hy
    · cases hx
  · rw [if_neg e] at hx hy
    exact h.2 j x y hx hy
theorem Fa.append {α β : Type} {R : α → β → Prop} {l l' : List α} {m m' : List β} (h : Fa R l m) (h' : Fa R l' m') : Fa R (l ++ l') (m ++ m') := by
  refine ⟨by simp [h.1, h'.1], fun i a b ha hb => ?_⟩
  rcases Nat.lt_or_ge i l.length with hi | hi
  · rw [List.getElem?_append_left hi] at ha
    rw [List.getElem?_append_left (by rw [← h.1]; exact hi)] at hb
    exact h.2 i a b ha hb
  · rw [List.getElem?_append_right hi] at ha
    rw [List.getElem?_append_right (by rw [← h.1]; exact hi), ← h.1] at hb
    exact h'.2 _ a b ha hb
theorem Fa.take {α β : Type} {R : α → β → Prop} {l : List α} {m : List β} (h : Fa R l m) (n : Nat) : Fa R (l.take n) (m.take n) := by
  refine ⟨by simp [h.1], fun i a b ha hb => ?_⟩
  rw [List.getElem?_take] at ha hb
  split at ha
  · rename_i hi; rw [if_pos hi] at hb; exact h.2 i a b ha hb
  · cases ha
theorem Fa.drop {α β : Type} {R : α → β → Prop} {l : List α} {m : List β} (h : Fa R l m) (n : Nat) : Fa R (l.drop n) (m.drop n) := by
  refine ⟨by simp [h.1], fun i a b ha hb => ?_⟩
  rw [List.getElem?_drop] at ha hb
  exact h.2 _ a b ha hb

/-- Where a slice that nobody writes to lies: anywhere that this call may read; in what is new; in the part of the old that may go back to the caller. -/
inductive Fl where
  | o | n | u
  deriving DecidableEq, Inhabited
inductive AV where
  | junk
  | lit (v : Value)
  | agg (l : List AV)
  | tup (l : List AV)
  | box (b o : Nat)
  | row (b : Nat)
  | sub (b sz lo n : Nat)
  | elp (b sz i j : Nat)
  | sl (z : Fl) (sz : Nat) (xs : List AV)
  | rp (z : Fl) (x : AV) (j : Nat)
  | fn (f : Nat) (caps : List AV)
  deriving Inhabited

def AV.leaves : AV → List AV
  | .agg l => l
  | v => [v]

/-- Which leaves of an element are rows of their own, packed: of which element type. -/
inductive Ds where
  | v
  | own (e : Nat) (ds : List Ds)
  deriving Inhabited
inductive Blk where
  | fresh
  | gone
  | box (t : TypeId) (cells : List AV)
  | row (e : TypeId) (sz : Nat) (xs : List AV)
  | drow (op : Bool) (ds : List Ds) (e : TypeId) (sz : Nat) (xs : List AV)
  deriving Inhabited

theorem add_add (a : Addr) (m n : Nat) : (a.add m).add n = a.add (m + n) := by
  unfold Addr.add
  by_cases hn : n = 0
  · subst hn; simp
  · by_cases hm : m = 0
    · subst hm; simp
    · simp [hn, hm, Nat.add_assoc]
theorem add_block (a : Addr) (n : Nat) : (a.add n).block = a.block := by unfold Addr.add; split <;> rfl
theorem add_lit (g m : Nat) : (⟨g, 0, none⟩ : Addr).add m = ⟨g, m, none⟩ := by unfold Addr.add; split <;> simp_all
theorem add_lit' (g m n : Nat) : (⟨g, m, none⟩ : Addr).add n = ⟨g, m + n, none⟩ := by unfold Addr.add; split <;> simp_all
theorem cell_block {w w' : World} {a : Addr} (h : w'.heap[a.block]? = w.heap[a.block]?) : w'.cell? a = w.cell? a := World.cell?_of_block (w := w) h

/-- A value that nobody writes to any more, read in the world's blocks Z. -/
inductive RepV (Z : Nat → Prop) (w : World) : AV → Value → Prop
  | lit {v : Value} : v.oneCell' = true → RepV Z w (.lit v) v
  | junk {v : Value} : v.oneCell' = true → RepV Z w .junk v
  | sl {z : Fl} {sz : Nat} {xs : List AV} {A : Option Addr} {c : Nat} (ad : Addr) (f : Nat → Nat → Value) (hc : xs.length ≤ c) (hm : xs.length ≤ 9223372036854775807) (hz : 0 < sz) (hA : 0 < xs.length → A = some ad ∧ Z ad.block)
      (hl : ∀ (j : Nat) (x : AV), xs[j]? = some x → x.leaves.length = sz)
      (hcell : ∀ (j : Nat) (x : AV) (i : Nat) (lv : AV), xs[j]? = some x → x.leaves[i]? = some lv → w.cell? (ad.add (j * sz + i)) = some (f j i))
      (hrep : ∀ (j : Nat) (x : AV) (i : Nat) (lv : AV), xs[j]? = some x → x.leaves[i]? = some lv → RepV Z w lv (f j i)) : RepV Z w (.sl z sz xs) (.slice A xs.length c)
theorem RepV.one {Z : Nat → Prop} {w : World} {x : AV} {u : Value} (h : RepV Z w x u) : u.oneCell' = true := by cases h <;> first | assumption | rfl
theorem RepV.move {Z Z' : Nat → Prop} {w w' : World} {x : AV} {u : Value} (h : RepV Z w x u) (hk : ∀ k, Z k → w'.heap[k]? = w.heap[k]?) (hZ : ∀ k, Z k → Z' k) : RepV Z' w' x u := by
  induction h with
  | lit h => exact .lit h
  | junk h => exact .junk h
  | @sl z sz xs A c ad f hc hm hz hA hl hcell hrep ih =>
    refine .sl ad f hc hm hz (fun hp => ⟨(hA hp).1, hZ _ (hA hp).2⟩) hl (fun j x i lv hj hi => ?_) ih
    have hp : 0 < xs.length := Nat.lt_of_le_of_lt (Nat.zero_le _) (List.getElem?_eq_some_iff.1 hj).1
    rw [cell_block (w := w) (by rw [add_block]; exact hk _ (hA hp).2)]
    exact hcell j x i lv hj hi
theorem RepV.flag {Z : Nat → Prop} {w : World} {z z' : Fl} {sz : Nat} {xs : List AV} {u : Value} (h : RepV Z w (.sl z sz xs) u) : RepV Z w (.sl z' sz xs) u := by
  cases h with
  | sl ad f hc hm hz hA hl hcell hrep => exact .sl ad f hc hm hz hA hl hcell hrep

/-- The block that a header or a pointer names. -/
def refB : Value → Option Nat
  | .pointer (some a) => some a.block
  | .slice (some a) _ _ => some a.block
  | _ => none

/-- A row of the call's own, and what lies in it. -/
def RowOk (Zn : Nat → Prop) (w : World) (e sz : Nat) (v : Value) (xs : List AV) : Prop := 0 < sz ∧ ∃ inner, ownsR w 0 e sz v xs.length inner ∧ (∀ (j : Nat) (x : AV), xs[j]? = some x → x.leaves.length = sz) ∧
  ∀ (j : Nat) (x : AV) (i : Nat) (lv : AV), xs[j]? = some x → x.leaves[i]? = some lv → ∃ u, inner[j * sz + i]? = some u ∧ RepV Zn w lv u
/-- Which of the heap's blocks a packed row holds, by the way from the root. -/
abbrev Tr := List Nat → Option Nat
def Tr.sub (t : Tr) (i : Nat) : Tr := fun p => t (i :: p)
/-- A leaf of a deep row: what nobody writes to, or a row of its own. -/
inductive Lv (Zn : Nat → Prop) (w : World) : Tr → Ds → AV → Value → Prop
  | v {t : Tr} {x : AV} {u : Value} (h : RepV Zn w x u) : Lv Zn w t .v x u
  | junk {t : Tr} {d : Ds} {u : Value} (h : u.oneCell' = true) : Lv Zn w t d .junk u
  | own {t : Tr} {e : Nat} {ds : List Ds} {z : Fl} {sz : Nat} {xs : List AV} {u : Value} (inner : List Value) (g : Nat → Nat → Value) (h0 : 0 < sz) (ho : ownsR w 0 e sz u xs.length inner) (hr : refB u = t [])
      (hl : ∀ (j : Nat) (x : AV), xs[j]? = some x → x.leaves.length = sz)
      (hc : ∀ (j : Nat) (x : AV) (i : Nat) (lv : AV), xs[j]? = some x → x.leaves[i]? = some lv → inner[j * sz + i]? = some (g j i))
      (hv : ∀ (j : Nat) (x : AV) (i : Nat) (lv : AV), xs[j]? = some x → x.leaves[i]? = some lv → Lv Zn w (t.sub (j * sz + i)) (ds.getD i .v) lv (g j i)) : Lv Zn w t (.own e ds) (.sl z sz xs) u
theorem ownsRow_one {w : World} {e sz : Nat} {u : Value} {n : Nat} {inner : List Value} (h : ownsR w 0 e sz u n inner) : u.oneCell' = true := by
  rcases h.2 with ⟨h1, _⟩ | ⟨_, _, _, h1, _⟩ <;> rw [h1] <;> rfl
theorem ownsRow_move {w w' : World} {e sz : Nat} {u : Value} {n : Nat} {inner : List Value} (h : ownsR w 0 e sz u n inner) (hk : ∀ k, refB u = some k → w'.heap[k]? = w.heap[k]?) : ownsR w' 0 e sz u n inner := by
  refine ⟨h.1, ?_⟩
  rcases h.2 with h1 | ⟨g, cap, cur, rfl, hg, hh, r⟩
  · exact .inl h1
  · exact .inr ⟨g, cap, cur, rfl, hg, hh.kept (hk g rfl), r⟩
theorem Lv.one {Zn : Nat → Prop} {w : World} {t : Tr} {d : Ds} {x : AV} {u : Value} (h : Lv Zn w t d x u) : u.oneCell' = true := by
  cases h with
  | v h => exact h.one
  | junk h => exact h
  | own inner g h0 ho => exact ownsRow_one ho
theorem Lv.move {Zn Zn' : Nat → Prop} {w w' : World} {t : Tr} {d : Ds} {x : AV} {u : Value} (h : Lv Zn w t d x u) (hn : ∀ k, Zn k → w'.heap[k]? = w.heap[k]? ∧ Zn' k) (hk : ∀ p k, t p = some k → w'.heap[k]? = w.heap[k]?) : Lv Zn' w' t d x u := by
  induction h with
  | v h => exact .v (h.move (fun k hk => (hn k hk).1) (fun k hk => (hn k hk).2))
  | junk h => exact .junk h
  | @own t e ds z sz xs u inner g h0 ho hr hl hc hv ih =>
    exact .own inner g h0 (ownsRow_move ho (fun k h => hk [] k (hr ▸ h))) hr hl hc (fun j x i lv hj hi => ih j x i lv hj hi (fun p k h => hk ((j * sz + i) :: p) k h))
section
variable (Zf : Fl → Nat → Prop) (w : World) (ρ : Nat → Value) (bk : Nat → Blk)
/-- What is held in one cell. -/
def RepC0 : AV → Value → Prop
  | .junk, u => u.oneCell' = true
  | .lit v, u => u = v ∧ v.oneCell' = true
  | .box b o, u => bk b ≠ .fresh ∧ ∃ g, ρ b = .pointer (some ⟨g, 0, none⟩) ∧ u = .pointer (some ⟨g, o, none⟩)
  | .row b, u => bk b ≠ .fresh ∧ u = ρ b ∧ u.oneCell' = true
  | .sub b sz lo n, u => bk b ≠ .fresh ∧ ∃ A N c, ρ b = .slice A N c ∧ lo + n ≤ N ∧ u = sliced A lo (lo + n) c sz
  | .elp b sz i j, u => bk b ≠ .fresh ∧ ∃ g n c, ρ b = .slice (some ⟨g, 0, none⟩) n c ∧ u = .pointer (some ⟨g, i * sz + j, none⟩)
  | .sl z sz xs, u => RepV (Zf z) w (.sl z sz xs) u
  | .rp z x j, u => ∃ (ad : Addr) (f : Nat → Value), u = .pointer (some (ad.add j)) ∧ Zf z ad.block ∧ ∀ (i : Nat) (lv : AV), x.leaves[i]? = some lv → w.cell? (ad.add i) = some (f i) ∧ RepV (Zf z) w lv (f i)
  | _, _ => False
def RepA0 (x : AV) (u : Value) : Prop := RepC0 Zf w ρ bk x u ∨ ∃ (l : List AV) (cs : List Value), x = .agg l ∧ u = .agg cs.toArray ∧ Fa (RepC0 Zf w ρ bk) l cs
def RepC (x : AV) (u : Value) : Prop := RepC0 Zf w ρ bk x u ∨ ∃ (f : Nat) (caps : List AV) (cs : List Value), x = .fn f caps ∧ u = .func (.func f) #[] cs.toArray ∧ Fa (RepA0 Zf w ρ bk) caps cs
def RepA (x : AV) (u : Value) : Prop := RepC Zf w ρ bk x u ∨ ∃ (l : List AV) (cs : List Value), x = .agg l ∧ u = .agg cs.toArray ∧ Fa (RepC Zf w ρ bk) l cs
/-- What a tmp holds. -/
def RepT (x : AV) (u : Value) : Prop := x = .junk ∨ x = .lit u ∨ RepA Zf w ρ bk x u ∨ ∃ (l : List AV) (cs : List Value), x = .tup l ∧ u = .tuple cs.toArray ∧ Fa (RepA Zf w ρ bk) l cs
/-- A deep row's leaf: packed, or open: taken out as a block, or of no more use. -/
def LfD (op : Bool) (t : Tr) (d : Ds) (lv : AV) (u : Value) : Prop := Lv (Zf .n) w t d lv u ∨ (∃ c, op = true ∧ lv = .row c ∧ bk c ≠ .fresh ∧ u = ρ c ∧ u.oneCell' = true)
/-- A deep row: its leaves may be rows of their own, packed, or, where it is open, taken out as blocks. -/
def RowD (op : Bool) (ds : List Ds) (t : Tr) (e sz : Nat) (v : Value) (xs : List AV) : Prop := 0 < sz ∧ ∃ inner, ownsR w 0 e sz v xs.length inner ∧ (∀ (j : Nat) (x : AV), xs[j]? = some x → x.leaves.length = sz) ∧
  ∀ (j : Nat) (x : AV) (i : Nat) (lv : AV), xs[j]? = some x → x.leaves[i]? = some lv → ∃ u, inner[j * sz + i]? = some u ∧ LfD Zf w ρ bk op (t.sub (j * sz + i)) (ds.getD i .v) lv u
def BlkOk (v : Value) : Blk → Prop
  | .box t cells => ∃ g, ∃ cs : List Value, v = .pointer (some ⟨g, 0, none⟩) ∧ w.heap[g]? = some (.cells cs.toArray t (0, 0)) ∧ Fa (RepC Zf w ρ bk) cells cs
  | .row e sz xs => RowOk (Zf .n) w e sz v xs
  | _ => True
end
def live : Blk → Bool
  | .box .. | .row .. | .drow .. => true
  | _ => false
def isD : Blk → Bool
  | .drow .. => true
  | _ => false
/-- What a block holds, of flat ones. -/
def Own (ρ : Nat → Value) (bk : Nat → Blk) (b k : Nat) : Prop := live (bk b) = true ∧ refB (ρ b) = some k

/-- What a block holds, with what lies packed in it. -/
def OwnD (ρ : Nat → Value) (ω : Nat → Tr) (bk : Nat → Blk) (b k : Nat) : Prop := live (bk b) = true ∧ (refB (ρ b) = some k ∨ (isD (bk b) = true ∧ ∃ i p, ω b (i :: p) = some k))
theorem Own.deep {ρ : Nat → Value} {ω : Nat → Tr} {bk : Nat → Blk} {b k : Nat} (h : Own ρ bk b k) : OwnD ρ ω bk b k := ⟨h.1, .inl h.2⟩
theorem OwnD.flat {ρ : Nat → Value} {ω : Nat → Tr} {bk : Nat → Blk} {b k : Nat} (h : OwnD ρ ω bk b k) (hf : isD (bk b) = false) : Own ρ bk b k := ⟨h.1, by rcases h.2 with h | ⟨h, _⟩; exact h; rw [hf] at h; cases h⟩
/-- No block twice in one tree. -/
def TreeOk (v : Value) (t : Tr) : Prop := (∀ i p k, t (i :: p) = some k → refB v ≠ some k) ∧ ∀ i p j q k, t (i :: p) = some k → t (j :: q) = some k → i = j ∧ p = q
/-- What the one listed variable holds. -/
def gW : List Int := [1116352408, 1899447441, 3049323471, 3921009573, 961987163, 1508970993, 2453635748, 2870763221, 3624381080, 310598401, 607225278, 1426881987, 1925078388, 2162078206, 2614888103, 3248222580, 3835390401, 4022224774, 264347078, 604807628, 770255983, 1249150122, 1555081692, 1996064986, 2554220882, 2821834349, 2952996808, 3210313671, 3336571891, 3584528711, 113926993, 338241895, 666307205, 773529912, 1294757372, 1396182291, 1695183700, 1986661051, 2177026350, 2456956037, 2730485921, 2820302411, 3259730800, 3345764771, 3516065817, 3600352804, 4094571909, 275423344, 430227734, 506948616, 659060556, 883997877, 958139571, 1322822218, 1537002063, 1747873779, 1955562222, 2024104815, 2227730452, 2361852424, 2428436474, 2756734187, 3204031479, 3329325298]
/-- The variable of a world, in the blocks Z. -/
def GL (Z : Nat → Prop) (w : World) : Prop := Z 0 ∧ ∀ (i : Nat) (x : Int), gW[i]? = some x → w.cell? ⟨0, i, none⟩ = some (.int .u32 x)
/-- What a call began with. -/
structure Env where
  W0 : World
  Z0 : Nat → Prop
  Zi : Nat → Prop
  Zy : Nat → Prop
  ρ0 : Nat → Option Value
  gl : GL Z0 W0
def fz (E : Env) (Zn : Nat → Prop) : Fl → Nat → Prop
  | .o => fun k => E.Z0 k ∨ Zn k
  | .n => Zn
  | .u => E.Zy

/-- The deep rows, and that nothing is held twice. -/
structure DeepOk (E : Env) (Zn : Nat → Prop) (ρ : Nat → Value) (ω : Nat → Tr) (bk : Nat → Blk) (w : World) : Prop where
  row : ∀ b op ds e sz xs, bk b = .drow op ds e sz xs → RowD (fz E Zn) w ρ bk op ds (ω b) e sz (ρ b) xs
  tree : ∀ b, isD (bk b) = true → TreeOk (ρ b) (ω b)
  lt : ∀ b k, OwnD ρ ω bk b k → k < w.heap.size
  out : ∀ b k, OwnD ρ ω bk b k → ¬ E.Z0 k ∧ ¬ Zn k
  sep : ∀ b b' k, OwnD ρ ω bk b k → OwnD ρ ω bk b' k → b = b'
structure St (E : Env) (nt : Nat) (ρ : Nat → Value) (Zn : Nat → Prop) (tm : Nat → AV) (bk : Nat → Blk) (a : Act) (w : World) : Prop where
  os : w.os = E.W0.os
  tape : w.tape = E.W0.tape
  output : w.output = E.W0.output
  size : E.W0.heap.size ≤ w.heap.size
  z0 : ∀ k, E.Z0 k → k < E.W0.heap.size
  keep : ∀ k, E.Z0 k → w.heap[k]? = E.W0.heap[k]?
  zi : ∀ k, E.Zi k → Zn k
  zy : ∀ k, E.Zy k → E.Z0 k
  zn : ∀ k, Zn k → k < w.heap.size ∧ (E.Zi k ∨ ¬ E.Z0 k)
  fix : ∀ b v, E.ρ0 b = some v → bk b ≠ .fresh ∧ ρ b = v
  blk : ∀ b, BlkOk (fz E Zn) w ρ bk (ρ b) (bk b)
  deep : ∃ ω, DeepOk E Zn ρ ω bk w
  defers : a.defers = []
  ntmps : a.tmps.size = nt
  tmp : ∀ i : Nat, RepT (fz E Zn) w ρ bk (tm i) (a.eval (.tmp i))
def RelF (E : Env) (nt : Nat) (tm : Nat → AV) (bk : Nat → Blk) (a : Act) (w : World) : Prop := ∃ ρ Zn, St E nt ρ Zn tm bk a w

section
variable {Zf Zf' : Fl → Nat → Prop} {w w' : World} {ρ ρ' : Nat → Value} {bk bk' : Nat → Blk}
structure Mv (Zf Zf' : Fl → Nat → Prop) (w w' : World) (ρ ρ' : Nat → Value) (bk bk' : Nat → Blk) : Prop where
  hz : ∀ z k, Zf z k → w'.heap[k]? = w.heap[k]? ∧ Zf' z k
  hr : ∀ b, bk b ≠ .fresh → bk' b ≠ .fresh ∧ ρ' b = ρ b
theorem RepC0.move (m : Mv Zf Zf' w w' ρ ρ' bk bk') {x : AV} {u : Value} (h : RepC0 Zf w ρ bk x u) : RepC0 Zf' w' ρ' bk' x u := by
  cases x with
  | junk => exact h
  | lit v => exact h
  | box b o => obtain ⟨h1, g, h2, h3⟩ := h; exact ⟨(m.hr b h1).1, g, (m.hr b h1).2.trans h2, h3⟩
  | row b => obtain ⟨h1, h2, h3⟩ := h; exact ⟨(m.hr b h1).1, h2.trans (m.hr b h1).2.symm, h3⟩
  | sub b sz lo n => obtain ⟨h1, A, N, c, h2, h3⟩ := h; exact ⟨(m.hr b h1).1, A, N, c, (m.hr b h1).2.trans h2, h3⟩
  | elp b sz i j => obtain ⟨h1, g, n, c, h2, h3⟩ := h; exact ⟨(m.hr b h1).1, g, n, c, (m.hr b h1).2.trans h2, h3⟩
  | sl z sz xs => exact RepV.move h (fun k hk => (m.hz z k hk).1) (fun k hk => (m.hz z k hk).2)
  | rp z x j =>
    obtain ⟨ad, f, h1, h2, h3⟩ := h
    refine ⟨ad, f, h1, (m.hz z _ h2).2, fun i lv hi => ⟨?_, (h3 i lv hi).2.move (fun k hk => (m.hz z k hk).1) (fun k hk => (m.hz z k hk).2)⟩⟩
    rw [cell_block (w := w) (by rw [add_block]; exact (m.hz z _ h2).1)]
    exact (h3 i lv hi).1
  | _ => exact h
theorem RepA0.move (m : Mv Zf Zf' w w' ρ ρ' bk bk') {x : AV} {u : Value} (h : RepA0 Zf w ρ bk x u) : RepA0 Zf' w' ρ' bk' x u := by
  rcases h with h | ⟨l, cs, h1, h2, h3⟩
  · exact .inl (RepC0.move m h)
  · exact .inr ⟨l, cs, h1, h2, h3.imp fun _ _ h => RepC0.move m h⟩
theorem RepC.move (m : Mv Zf Zf' w w' ρ ρ' bk bk') {x : AV} {u : Value} (h : RepC Zf w ρ bk x u) : RepC Zf' w' ρ' bk' x u := by
  rcases h with h | ⟨f, l, cs, h1, h2, h3⟩
  · exact .inl (RepC0.move m h)
  · exact .inr ⟨f, l, cs, h1, h2, h3.imp fun _ _ h => RepA0.move m h⟩
theorem RepA.move (m : Mv Zf Zf' w w' ρ ρ' bk bk') {x : AV} {u : Value} (h : RepA Zf w ρ bk x u) : RepA Zf' w' ρ' bk' x u := by
  rcases h with h | ⟨l, cs, h1, h2, h3⟩
  · exact .inl (RepC.move m h)
  · exact .inr ⟨l, cs, h1, h2, h3.imp fun _ _ h => RepC.move m h⟩
theorem RepT.move (m : Mv Zf Zf' w w' ρ ρ' bk bk') {x : AV} {u : Value} (h : RepT Zf w ρ bk x u) : RepT Zf' w' ρ' bk' x u := by
  rcases h with h | h | h | ⟨l, cs, h1, h2, h3⟩
  · exact .inl h
  · exact .inr (.inl h)
  · exact .inr (.inr (.inl (RepA.move m h)))
  · exact .inr (.inr (.inr ⟨l, cs, h1, h2, h3.imp fun _ _ h => RepA.move m h⟩))
end

theorem refB_lt {Zf : Fl → Nat → Prop} {w : World} {ρ : Nat → Value} {bk : Nat → Blk} {v : Value} {b : Blk} (h : BlkOk Zf w ρ bk v b) (hl : live b = true) (hf : isD b = false) {k : Nat} (hk : refB v = some k) : k < w.heap.size := by
  cases b with
  | fresh => cases hl
  | gone => cases hl
  | drow op ds e sz xs => cases hf
  | box t cells =>
    obtain ⟨g, cs, rfl, hg, _⟩ := h
    simp [refB] at hk
    subst hk
    exact (Array.getElem?_eq_some_iff.1 hg).1
  | row e sz xs =>
    obtain ⟨_, inner, ho, _⟩ := h
    refine (ho.lt k ?_).2
    cases v with
    | slice a n c => cases a with
      | none => simp [refB] at hk
      | some a => exact hk
    | pointer a => rcases ho.2 with ⟨h1, _⟩ | ⟨_, _, _, h1, _⟩ <;> cases h1
    | _ => simp [refB] at hk
theorem St.own_lt {E : Env} {nt : Nat} {ρ : Nat → Value} {Zn : Nat → Prop} {tm : Nat → AV} {bk : Nat → Blk} {a : Act} {w : World} (h : St E nt ρ Zn tm bk a w) {b k : Nat} (hk : Own ρ bk b k) : k < w.heap.size := h.deep.elim fun _ d => d.lt b k hk.deep
theorem St.out {E : Env} {nt : Nat} {ρ : Nat → Value} {Zn : Nat → Prop} {tm : Nat → AV} {bk : Nat → Blk} {a : Act} {w : World} (h : St E nt ρ Zn tm bk a w) (b k : Nat) (hk : Own ρ bk b k) : ¬ E.Z0 k ∧ ¬ Zn k := h.deep.elim fun _ d => d.out b k hk.deep
theorem St.sep {E : Env} {nt : Nat} {ρ : Nat → Value} {Zn : Nat → Prop} {tm : Nat → AV} {bk : Nat → Blk} {a : Act} {w : World} (h : St E nt ρ Zn tm bk a w) (b b' k : Nat) (hk : Own ρ bk b k) (hk' : Own ρ bk b' k) : b = b' := h.deep.elim fun _ d => d.sep b b' k hk.deep hk'.deep
theorem RowD.move {Zf Zf' : Fl → Nat → Prop} {w w' : World} {ρ ρ' : Nat → Value} {bk bk' : Nat → Blk} (m : Mv Zf Zf' w w' ρ ρ' bk bk') {op : Bool} {ds : List Ds} {t : Tr} {e sz : Nat} {v : Value} {xs : List AV} (h : RowD Zf w ρ bk op ds t e sz v xs) (hk : ∀ k, refB v = some k → w'.heap[k]? = w.heap[k]?) (ht : ∀ i p k, t (i :: p) = some k → w'.heap[k]? = w.heap[k]?) : RowD Zf' w' ρ' bk' op ds t e sz v xs := by
  obtain ⟨h0, inner, ho, hl, hr⟩ := h
  refine ⟨h0, inner, ownsRow_move ho hk, hl, fun j x i lv hj hi => ?_⟩
  obtain ⟨u, hu, hv⟩ := hr j x i lv hj hi
  refine ⟨u, hu, ?_⟩
  rcases hv with hv | ⟨c, h0', h1, h2, h3, h4⟩
  · exact .inl (hv.move (m.hz .n) (fun p k h => ht _ p k h))
  · exact .inr ⟨c, h0', h1, (m.hr c h2).1, h3.trans (m.hr c h2).2.symm, h4⟩
theorem RowOk.move {Zn Zn' : Nat → Prop} {w w' : World} {e sz : Nat} {v : Value} {xs : List AV} (h : RowOk Zn w e sz v xs) (hn : ∀ k, Zn k → w'.heap[k]? = w.heap[k]? ∧ Zn' k) (hk : ∀ k, refB v = some k → w'.heap[k]? = w.heap[k]?) : RowOk Zn' w' e sz v xs := by
  obtain ⟨h0, inner, ho, hl, hr⟩ := h
  refine ⟨h0, inner, ⟨ho.1, ?_⟩, hl, fun j x i lv hj hi => ?_⟩
  · rcases ho.2 with h1 | ⟨g, cap, cur, rfl, hg, hh, r⟩
    · exact .inl h1
    · exact .inr ⟨g, cap, cur, rfl, hg, hh.kept (hk g rfl), r⟩
  · obtain ⟨u, hu, hv⟩ := hr j x i lv hj hi
    exact ⟨u, hu, hv.move (fun k hk => (hn k hk).1) (fun k hk => (hn k hk).2)⟩
theorem BlkOk.move {Zf Zf' : Fl → Nat → Prop} {w w' : World} {ρ ρ' : Nat → Value} {bk bk' : Nat → Blk} (m : Mv Zf Zf' w w' ρ ρ' bk bk') {v : Value} {b : Blk} (h : BlkOk Zf w ρ bk v b) (hk : ∀ k, live b = true → refB v = some k → w'.heap[k]? = w.heap[k]?) : BlkOk Zf' w' ρ' bk' v b := by
  cases b with
  | fresh => trivial
  | gone => trivial
  | drow op ds e sz xs => trivial
  | box t cells =>
    obtain ⟨g, cs, rfl, hg, hf⟩ := h
    exact ⟨g, cs, rfl, (hk g rfl rfl).trans hg, hf.imp fun _ _ h => RepC.move m h⟩
  | row e sz xs => exact RowOk.move h (m.hz .n) (fun k => hk k rfl)

/-- The one step: the blocks of U turn, or come; all else stays. -/
theorem St.updD {E : Env} {nt : Nat} {ρ ρ' : Nat → Value} {Zn Zn' : Nat → Prop} {tm tm' : Nat → AV} {bk bk' : Nat → Blk} {a a' : Act} {w w' : World} (h : St E nt ρ Zn tm bk a w) {ω : Nat → Tr} (d : DeepOk E Zn ρ ω bk w) (ω' : Nat → Tr) (U : Nat → Prop)
    (hos : w'.os = w.os) (htape : w'.tape = w.tape) (hout : w'.output = w.output) (hsize : w.heap.size ≤ w'.heap.size)
    (hk : ∀ k, k < w.heap.size → (∀ b, U b → ¬ OwnD ρ ω bk b k) → w'.heap[k]? = w.heap[k]?)
    (hρ : ∀ b, ¬ U b → ρ' b = ρ b) (hb : ∀ b, ¬ U b → bk' b = bk b) (hω : ∀ b, ¬ U b → ω' b = ω b)
    (hU : ∀ b, U b → bk b ≠ .fresh → bk' b ≠ .fresh ∧ ρ' b = ρ b)
    (hZ : ∀ k, Zn k → Zn' k) (hZ' : ∀ k, Zn' k → Zn k ∨ (k < w'.heap.size ∧ (w.heap.size ≤ k ∨ ∃ b, U b ∧ OwnD ρ ω bk b k)))
    (hB : ∀ b, U b → Mv (fz E Zn) (fz E Zn') w w' ρ ρ' bk bk' → BlkOk (fz E Zn') w' ρ' bk' (ρ' b) (bk' b))
    (hR : ∀ b op ds e sz xs, U b → Mv (fz E Zn) (fz E Zn') w w' ρ ρ' bk bk' → bk' b = .drow op ds e sz xs → RowD (fz E Zn') w' ρ' bk' op ds (ω' b) e sz (ρ' b) xs)
    (hT : ∀ b, U b → isD (bk' b) = true → TreeOk (ρ' b) (ω' b))
    (hO : ∀ b k, U b → OwnD ρ' ω' bk' b k → (w.heap.size ≤ k ∨ ∃ b0, U b0 ∧ OwnD ρ ω bk b0 k) ∧ ¬ Zn' k)
    (hL : ∀ b k, U b → OwnD ρ' ω' bk' b k → Mv (fz E Zn) (fz E Zn') w w' ρ ρ' bk bk' → k < w'.heap.size)
    (hS : ∀ b b' k, U b → U b' → OwnD ρ' ω' bk' b k → OwnD ρ' ω' bk' b' k → b = b')
    (hd : a'.defers = a.defers) (hn : a'.tmps.size = a.tmps.size)
    (ht : ∀ i : Nat, (tm' i = tm i ∧ a'.eval (.tmp i) = a.eval (.tmp i)) ∨ (Mv (fz E Zn) (fz E Zn') w w' ρ ρ' bk bk' → RepT (fz E Zn') w' ρ' bk' (tm' i) (a'.eval (.tmp i)))) : St E nt ρ' Zn' tm' bk' a' w' := by
  have hz0 : ∀ k, E.Z0 k → w'.heap[k]? = w.heap[k]? := fun k hz => hk k (Nat.lt_of_lt_of_le (h.z0 k hz) h.size) (fun b _ ho => (d.out b k ho).1 hz)
  have hzn : ∀ k, Zn k → w'.heap[k]? = w.heap[k]? := fun k hz => hk k (h.zn k hz).1 (fun b _ ho => (d.out b k ho).2 hz)
  have hf : ∀ b, bk b ≠ .fresh → bk' b ≠ .fresh ∧ ρ' b = ρ b := fun b hb' => by
    by_cases hu : U b
    · exact hU b hu hb'
    · exact ⟨by rw [hb b hu]; exact hb', hρ b hu⟩
  have m : Mv (fz E Zn) (fz E Zn') w w' ρ ρ' bk bk' := ⟨fun z k hz => by
    cases z with
    | o =>
      rcases hz with hz | hz
      · exact ⟨hz0 k hz, .inl hz⟩
      · exact ⟨hzn k hz, .inr (hZ k hz)⟩
    | n => exact ⟨hzn k hz, hZ k hz⟩
    | u => exact ⟨hz0 k (h.zy k hz), hz⟩, hf⟩
  have own_old : ∀ b k, ¬ U b → OwnD ρ' ω' bk' b k → OwnD ρ ω bk b k := fun b k hu ho => by
    unfold OwnD at ho ⊢
    rw [hb b hu, hρ b hu, hω b hu] at ho
    exact ho
  have same : ∀ b k, ¬ U b → OwnD ρ ω bk b k → w'.heap[k]? = w.heap[k]? := fun b k hu ho => hk k (d.lt b k ho) (fun b' hu' ho' => hu (d.sep b b' k ho ho' ▸ hu'))
  have znlt : ∀ k, Zn' k → k < w'.heap.size ∧ (E.Zi k ∨ ¬ E.Z0 k) := fun k hz => by
    rcases hZ' k hz with hz | ⟨hz1, hz2⟩
    · exact ⟨Nat.lt_of_lt_of_le (h.zn k hz).1 hsize, (h.zn k hz).2⟩
    · refine ⟨hz1, .inr fun h0 => ?_⟩
      rcases hz2 with hz2 | ⟨b, _, ho⟩
      · exact absurd (Nat.lt_of_lt_of_le (h.z0 k h0) h.size) (Nat.not_lt.2 hz2)
      · exact (d.out b k ho).1 h0
  refine ⟨hos.trans h.os, htape.trans h.tape, hout.trans h.output, Nat.le_trans h.size hsize, h.z0, fun k hz => (hz0 k hz).trans (h.keep k hz), fun k hz => hZ k (h.zi k hz), h.zy, znlt, fun b v hv => ?_, fun b => ?_, ⟨ω', fun b op ds e sz xs hbk => ?_, fun b hbk => ?_, fun b k ho => ?_, fun b k ho => ?_, fun b b' k ho ho' => ?_⟩, hd.trans h.defers, hn.trans h.ntmps, fun i => ?_⟩
  · have h1 := h.fix b v hv
    exact ⟨(hf b h1.1).1, (hf b h1.1).2.trans h1.2⟩
  · by_cases hu : U b
    · exact hB b hu m
    · rw [hρ b hu, hb b hu]
      exact BlkOk.move m (h.blk b) (fun k hl hr => same b k hu ⟨hl, .inl hr⟩)
  · by_cases hu : U b
    · exact hR b op ds e sz xs hu m hbk
    · rw [hb b hu] at hbk
      rw [hρ b hu, hω b hu]
      have hl : live (bk b) = true := by rw [hbk]; rfl
      exact (d.row b op ds e sz xs hbk).move m (fun k hr => same b k hu ⟨hl, .inl hr⟩) (fun i p k ht => same b k hu ⟨hl, .inr ⟨by rw [hbk]; rfl, i, p, ht⟩⟩)
  · by_cases hu : U b
    · exact hT b hu hbk
    · rw [hρ b hu, hω b hu]
      rw [hb b hu] at hbk
      exact d.tree b hbk
  · by_cases hu : U b
    · exact hL b k hu ho m
    · exact Nat.lt_of_lt_of_le (d.lt b k (own_old b k hu ho)) hsize
  · by_cases hu : U b
    · obtain ⟨h1, h2⟩ := hO b k hu ho
      refine ⟨fun h0 => ?_, h2⟩
      rcases h1 with h1 | ⟨b0, _, h1⟩
      · exact absurd (Nat.lt_of_lt_of_le (h.z0 k h0) h.size) (Nat.not_lt.2 h1)
      · exact (d.out b0 k h1).1 h0
    · have ho' := own_old b k hu ho
      refine ⟨(d.out b k ho').1, fun hz => ?_⟩
      rcases hZ' k hz with hz | ⟨_, hz2⟩
      · exact (d.out b k ho').2 hz
      · rcases hz2 with hz2 | ⟨b', hu', ho2⟩
        · exact absurd (d.lt b k ho') (Nat.not_lt.2 hz2)
        · exact hu (d.sep b b' k ho' ho2 ▸ hu')
  · by_cases hu : U b
    · by_cases hu' : U b'
      · exact hS b b' k hu hu' ho ho'
      · have h1 := own_old b' k hu' ho'
        rcases (hO b k hu ho).1 with h2 | ⟨b0, hu0, h2⟩
        · exact absurd (d.lt b' k h1) (Nat.not_lt.2 h2)
        · exact absurd (d.sep b' b0 k h1 h2 ▸ hu0) hu'
    · have h1 := own_old b k hu ho
      by_cases hu' : U b'
      · rcases (hO b' k hu' ho').1 with h2 | ⟨b0, hu0, h2⟩
        · exact absurd (d.lt b k h1) (Nat.not_lt.2 h2)
        · exact absurd (d.sep b b0 k h1 h2 ▸ hu0) hu
      · exact d.sep b b' k h1 (own_old b' k hu' ho')
  · rcases ht i with ⟨h1, h2⟩ | h1
    · rw [h1, h2]
      exact RepT.move m (h.tmp i)
    · exact h1 m
/-- The same where the blocks of U are flat ones. -/
theorem St.upd {E : Env} {nt : Nat} {ρ ρ' : Nat → Value} {Zn Zn' : Nat → Prop} {tm tm' : Nat → AV} {bk bk' : Nat → Blk} {a a' : Act} {w w' : World} (h : St E nt ρ Zn tm bk a w) (U : Nat → Prop)
    (hos : w'.os = w.os) (htape : w'.tape = w.tape) (hout : w'.output = w.output) (hsize : w.heap.size ≤ w'.heap.size)
    (hk : ∀ k, k < w.heap.size → (∀ b, U b → ¬ Own ρ bk b k) → w'.heap[k]? = w.heap[k]?)
    (hρ : ∀ b, ¬ U b → ρ' b = ρ b) (hb : ∀ b, ¬ U b → bk' b = bk b)
    (hU : ∀ b, U b → bk b ≠ .fresh → bk' b ≠ .fresh ∧ ρ' b = ρ b)
    (hZ : ∀ k, Zn k → Zn' k) (hZ' : ∀ k, Zn' k → Zn k ∨ (k < w'.heap.size ∧ (w.heap.size ≤ k ∨ ∃ b, U b ∧ Own ρ bk b k)))
    (hB : ∀ b, U b → Mv (fz E Zn) (fz E Zn') w w' ρ ρ' bk bk' → BlkOk (fz E Zn') w' ρ' bk' (ρ' b) (bk' b))
    (hO : ∀ b k, U b → Own ρ' bk' b k → (w.heap.size ≤ k ∨ ∃ b0, U b0 ∧ Own ρ bk b0 k) ∧ ¬ Zn' k)
    (hS : ∀ b b' k, U b → U b' → Own ρ' bk' b k → Own ρ' bk' b' k → b = b')
    (hd : a'.defers = a.defers) (hn : a'.tmps.size = a.tmps.size)
    (ht : ∀ i : Nat, (tm' i = tm i ∧ a'.eval (.tmp i) = a.eval (.tmp i)) ∨ (Mv (fz E Zn) (fz E Zn') w w' ρ ρ' bk bk' → RepT (fz E Zn') w' ρ' bk' (tm' i) (a'.eval (.tmp i))))
    (hF : ∀ b, U b → isD (bk b) = false ∧ isD (bk' b) = false) : St E nt ρ' Zn' tm' bk' a' w' := by
  obtain ⟨ω, d⟩ := h.deep
  refine h.updD d ω U hos htape hout hsize (fun k hl hn => hk k hl fun b hu ho => hn b hu ho.deep) hρ hb (fun _ _ => rfl) hU hZ (fun k hz => ?_) hB (fun b op ds e sz xs hu _ hbk => ?_) (fun b hu hbk => ?_) (fun b k hu ho => ?_) (fun b k hu ho m => ?_) (fun b b' k hu hu' ho ho' => hS b b' k hu hu' (ho.flat (hF b hu).2) (ho'.flat (hF b' hu').2)) hd hn ht
  · rcases hZ' k hz with hz | ⟨h1, h2⟩
    · exact .inl hz
    · exact .inr ⟨h1, h2.imp id fun ⟨b, hu, ho⟩ => ⟨b, hu, ho.deep⟩⟩
  · have := (hF b hu).2; rw [hbk] at this; cases this
  · rw [(hF b hu).2] at hbk; cases hbk
  · obtain ⟨h1, h2⟩ := hO b k hu (ho.flat (hF b hu).2)
    exact ⟨h1.imp id fun ⟨b0, hu0, ho0⟩ => ⟨b0, hu0, ho0.deep⟩, h2⟩
  · have ho' := ho.flat (hF b hu).2
    exact refB_lt (hB b hu m) ho'.1 (hF b hu).2 ho'.2
end Go.Proofs.YtahmbcgolnplgaaDoorA
