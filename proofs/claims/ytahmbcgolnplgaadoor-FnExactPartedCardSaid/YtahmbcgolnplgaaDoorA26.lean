/- The abstract machine, twenty-sixth part: deep rows: reading, storing, building, appending. No claim lies here. -/
import Derived.Test.YtahmbcgolnplgaaDoorA25
set_option linter.unusedVariables false
set_option linter.unusedSimpArgs false
namespace Go.Proofs.YtahmbcgolnplgaaDoorA
open Go Go.RowKit
section
variable {P : Program} {E : Env} {nt : Nat} {s : S} {o : Oper} {d : Nat}
/-- What may be read of a deep row as it is: values, and blocks taken out. -/
def seen : AV → Bool
  | .lit _ | .row _ => true
  | _ => false
theorem seen_rep {Zf : Fl → Nat → Prop} {w : World} {ρ : Nat → Value} {bk : Nat → Blk} {op : Bool} {t : Tr} {dd : Ds} {lv : AV} {u : Value} (h : LfD Zf w ρ bk op t dd lv u) (hs : seen lv = true) : RepC Zf w ρ bk lv u := by
  rcases h with h | ⟨c, _, h1, h2, h3, h4⟩
  · cases h with
    | v h => cases h with
      | lit h => exact .inl ⟨rfl, h⟩
      | junk h => cases hs
      | sl => cases hs
    | junk => cases hs
    | own => cases hs
  · subst h1; exact .inl ⟨h2, h3, h4⟩
theorem LfD.one {Zf : Fl → Nat → Prop} {w : World} {ρ : Nat → Value} {bk : Nat → Blk} {op : Bool} {t : Tr} {dd : Ds} {lv : AV} {u : Value} (h : LfD Zf w ρ bk op t dd lv u) : u.oneCell' = true := by
  rcases h with hv | ⟨_, _, _, _, _, h4⟩
  · exact hv.one
  · exact h4
theorem rowD_cells {Zf : Fl → Nat → Prop} {w : World} {ρ : Nat → Value} {bk : Nat → Blk} {op : Bool} {ds : List Ds} {t : Tr} {e sz : Nat} {v : Value} {xs : List AV} (h : RowD Zf w ρ bk op ds t e sz v xs) {g n c i : Nat} (hv : v = .slice (some ⟨g, 0, none⟩) n c) {x : AV} (hx : xs[i]? = some x) : x.leaves.length = sz ∧ ∀ j y, x.leaves[j]? = some y → ∃ u, w.cell? ⟨g, i * sz + j, none⟩ = some u ∧ LfD Zf w ρ bk op (t.sub (i * sz + j)) (ds.getD j .v) y u := by
  obtain ⟨h0, inner, ho, hl, hr⟩ := h
  refine ⟨hl i x hx, fun j y hy => ?_⟩
  obtain ⟨u, hu, hrep⟩ := hr i x j y hx hy
  refine ⟨u, ?_, hrep⟩
  have := ho.cells (g := g) (by rw [hv]; rfl) (i * sz + j) u hu
  rwa [add_lit] at this
theorem r_ixD {T e e' sz sz' b : Nat} {op : Bool} {ds : List Ds} {x y : Operand} {xs : List AV} {k : IntKind} {i : Int} (hop : o.op = .indexAddr T x y) (hd : o.dst = some d) (hlt : Nat.blt d nt = true) (hx : opd s x = .row b) (hb : gB s.bk b = .drow op ds e' sz xs) (hy : opd s y = .lit (.int k i)) (h0 : 0 ≤ i) (h1 : i < (xs.length : Int)) (hT : sliceT P T e sz' = true) (hz : Nat.beq sz' sz = true) : Okv P E nt o s ⟨some d, .elp b sz i.toNat 0, []⟩ (lkO x ++ lkO y) [b] :=
  okv_val hd hlt fun tm bk ρ Zn a w hag hs => by
    have hz := beq_t hz
    subst hz
    have h2 := St.opd (s := s) hs x (fun t ht => hag.1 t (List.mem_append_left _ ht))
    have h3 := St.opd (s := s) hs y (fun t ht => hag.1 t (List.mem_append_right _ ht))
    rw [hx] at h2
    rw [hy] at h3
    have h3 := rep_lit h3
    obtain ⟨hf, h4, _⟩ := rep_C00 h2 rfl
    obtain ⟨ω, dd⟩ := hs.deep
    have hbk : bk b = .drow op ds e' sz' xs := (hag.2 b (List.mem_singleton.2 rfl)).trans hb
    obtain ⟨_, inner, ho, _⟩ := dd.row b _ _ _ _ _ hbk
    obtain ⟨A, c, e1, hc, hA⟩ := own_form ho
    obtain ⟨g, rfl⟩ := hA (by omega)
    refine ⟨_, ?_, rep_of_C (.inl ⟨hf, g, _, c, e1, rfl⟩)⟩
    unfold execOp
    simp only [hop]
    rw [Sem.run_bind, h3, h4, e1, indexAt_run hT h0 (by omega) rfl, add_lit]
    rfl
theorem r_lnD {T : TypeId} {x : Operand} {b e sz : Nat} {op : Bool} {ds : List Ds} {xs : List AV} {n : Int} (hop : o.op = .call { callee := .builtin .len, args := #[x], argTypes := #[T] }) (hd : o.dst = some d) (hlt : Nat.blt d nt = true) (hx : opd s x = .row b) (hb : gB s.bk b = .drow op ds e sz xs) (hn : (xs.length : Int) = n) (hT : isSliceT P T = true) : Okv P E nt o s ⟨some d, .lit (.int .i64 n), []⟩ (lkO x) [b] :=
  okv_val hd hlt fun tm bk ρ Zn a w hag hs => by
    have h2 := St.opd (s := s) hs x hag.1
    rw [hx] at h2
    obtain ⟨hf, h4, _⟩ := rep_C00 h2 rfl
    obtain ⟨ω, dd⟩ := hs.deep
    have hbk : bk b = .drow op ds e sz xs := (hag.2 b (List.mem_singleton.2 rfl)).trans hb
    obtain ⟨_, inner, ho, _⟩ := dd.row b _ _ _ _ _ hbk
    obtain ⟨A, c, e1, hc, hA⟩ := own_form ho
    subst hn
    refine ⟨_, ?_, .inr (.inl rfl)⟩
    unfold isSliceT at hT
    cases hu : P.underlying T with
    | none => rw [hu] at hT; cases hT
    | some t =>
      cases t with
      | slice e' => simp [execOp, hop, resolve, invoke, builtin, h4, e1, Builtin.len_, run_underlying hu, goInt]
      | _ => rw [hu] at hT; cases hT
/-- One leaf is read. -/
theorem r_ldD {T b e sz i j : Nat} {op : Bool} {ds : List Ds} {x : Operand} {xs : List AV} {X y : AV} (hop : o.op = .load T x) (hd : o.dst = some d) (hlt : Nat.blt d nt = true) (hx : opd s x = .elp b sz i j) (hb : gB s.bk b = .drow op ds e sz xs) (hX : xs[i]? = some X) (hy : X.leaves[j]? = some y) (hse : seen y = true) (hT : scalarT P T = true) : Okv P E nt o s ⟨some d, y, []⟩ (lkO x) [b] :=
  okv_val hd hlt fun tm bk ρ Zn a w hag hs => by
    have h2 := St.opd (s := s) hs x hag.1
    rw [hx] at h2
    obtain ⟨hf, g, n, c, hg, h4⟩ := rep_C00 h2 rfl
    obtain ⟨ω, dd⟩ := hs.deep
    have hbk : bk b = .drow op ds e sz xs := (hag.2 b (List.mem_singleton.2 rfl)).trans hb
    obtain ⟨hl, hc⟩ := rowD_cells (dd.row b _ _ _ _ _ hbk) hg hX
    obtain ⟨v, hv, hr⟩ := hc j y hy
    refine ⟨v, ?_, rep_of_C (seen_rep hr hse)⟩
    have := run_loadOne (P := P) hT hv
    simp [execOp, hop, h4, Instr.loadAt, Instr.sureAddr, this]
/-- Several leaves are read. -/
theorem r_ldDA {T b e sz i j n : Nat} {op : Bool} {ds : List Ds} {x : Operand} {xs l : List AV} {X : AV} (hop : o.op = .load T x) (hd : o.dst = some d) (hlt : Nat.blt d nt = true) (hx : opd s x = .elp b sz i j) (hb : gB s.bk b = .drow op ds e sz xs) (hX : xs[i]? = some X) (hl : (X.leaves.drop j).take n = l) (hn : l.length = n) (hse : l.all seen = true) (hT : aggT P T n = true) : Okv P E nt o s ⟨some d, .agg l, []⟩ (lkO x) [b] :=
  okv_val hd hlt fun tm bk ρ Zn a w hag hs => by
    have h2 := St.opd (s := s) hs x hag.1
    rw [hx] at h2
    obtain ⟨hf, g, n', c, hg, h4⟩ := rep_C00 h2 rfl
    obtain ⟨ω, dd⟩ := hs.deep
    have hbk : bk b = .drow op ds e sz xs := (hag.2 b (List.mem_singleton.2 rfl)).trans hb
    obtain ⟨hlX, hc⟩ := rowD_cells (dd.row b _ _ _ _ _ hbk) hg hX
    have get : ∀ k y, l[k]? = some y → X.leaves[j + k]? = some y := by
      intro k y hy
      rw [← hl, List.getElem?_take] at hy
      split at hy
      · rwa [List.getElem?_drop] at hy
      · cases hy
    have : ∃ cs : List Value, cs.length = n ∧ ∀ k v, cs[k]? = some v → w.cell? ⟨g, i * sz + (j + k), none⟩ = some v ∧ ∃ y, l[k]? = some y ∧ RepC (fz E Zn) w ρ bk y v := by
      refine ⟨(List.range n).map fun k => (w.cell? ⟨g, i * sz + (j + k), none⟩).getD undef, by simp, fun k v hv => ?_⟩
      rw [List.getElem?_map] at hv
      obtain ⟨k', hk', rfl⟩ := Option.map_eq_some_iff.1 hv
      have hk := (List.getElem?_eq_some_iff.1 hk').1
      rw [List.getElem?_range (by simpa using hk)] at hk'
      injection hk' with hk'
      subst hk'
      have hk2 : k < l.length := by simpa [hn] using hk
      obtain ⟨v, hv, hr⟩ := hc (j + k) _ (get k _ (List.getElem?_eq_getElem hk2))
      rw [hv]
      exact ⟨rfl, _, List.getElem?_eq_getElem hk2, seen_rep hr (List.all_eq_true.1 hse _ (List.getElem_mem _))⟩
    obtain ⟨cs, hcl, hcs⟩ := this
    refine ⟨.agg cs.toArray, ?_, .inr (.inr (.inl (.inr ⟨_, _, rfl, rfl, ⟨by rw [hn, hcl], fun k y v hy hv => ?_⟩⟩)))⟩
    · have := run_loadAgg (P := P) (ad := ⟨g, i * sz + j, none⟩) hT hcl (fun k v hv => by rw [add_lit', Nat.add_assoc]; exact (hcs k v hv).1)
      simp [execOp, hop, h4, Instr.loadAt, Instr.sureAddr, this]
    · obtain ⟨_, y', hy', hr⟩ := hcs k v hv
      rw [hy] at hy'; injection hy' with hy'; subst hy'
      exact hr
/-! What is laid into a deep row. -/
inductive Lt : Ds → AV → AV → Prop
  | v {v : Value} : Lt .v (.lit v) (.lit v)
  | row {dd : Ds} {c : Nat} : Lt dd (.row c) (.row c)
  | nil {e : Nat} {ds : List Ds} {z : Fl} {sz : Nat} : Nat.blt 0 sz = true → Lt (.own e ds) (.lit (.slice none 0 0)) (.sl z sz [])
inductive LtA (ds : List Ds) (sz : Nat) : Nat → List AV → List AV → Prop
  | nil {q : Nat} : LtA ds sz q [] []
  | cons {q : Nat} {x y : AV} {l m : List AV} : Lt (ds.getD (q % sz) .v) x y → LtA ds sz (q + 1) l m → LtA ds sz q (x :: l) (y :: m)
theorem LtA.len {ds : List Ds} {sz : Nat} : ∀ {q : Nat} {l m : List AV}, LtA ds sz q l m → l.length = m.length
  | _, _, _, .nil => rfl
  | _, _, _, .cons _ h => by simp [h.len]
theorem LtA.get {ds : List Ds} {sz : Nat} : ∀ {q : Nat} {l m : List AV}, LtA ds sz q l m → ∀ {i : Nat} {y : AV}, m[i]? = some y → ∃ x, l[i]? = some x ∧ Lt (ds.getD ((q + i) % sz) .v) x y
  | _, _, _, .nil, i, y, h => by simp at h
  | q, _, _, .cons (x := x) h0 h, i, y, hy => by
    cases i with
    | zero => simp at hy; subst hy; exact ⟨x, rfl, h0⟩
    | succ i =>
      obtain ⟨x', h1, h2⟩ := h.get (i := i) (by simpa using hy)
      exact ⟨x', by simpa using h1, by rwa [show q + (i + 1) = q + 1 + i by omega]⟩
theorem Lt.ok {Zf : Fl → Nat → Prop} {w : World} {ρ : Nat → Value} {bk : Nat → Blk} {dd : Ds} {x y : AV} {u : Value} {t : Tr} (h : Lt dd x y) (ht : ∀ p, t p = none) (hr : RepC Zf w ρ bk x u) : LfD Zf w ρ bk true t dd y u := by
  cases h with
  | @v v =>
    rcases hr with ⟨rfl, h1⟩ | ⟨_, _, _, h, _⟩
    · exact .inl (.v (.lit h1))
    · cases h
  | @row dd c =>
    rcases hr with ⟨h1, h2, h3⟩ | ⟨_, _, _, h, _⟩
    · exact .inr ⟨c, rfl, rfl, h1, h2, h3⟩
    · cases h
  | @nil e ds z sz h0 =>
    rcases hr with ⟨rfl, h1⟩ | ⟨_, _, _, h, _⟩
    · exact .inl (.own [] (fun _ _ => undef) (Nat.blt_eq ▸ h0) (ownsR_nil w 0 e sz) (ht []).symm (fun j x h => by simp at h) (fun j x i lv h => by simp at h) (fun j x i lv h => by simp at h))
    · cases h
def Tr.cutR (t : Tr) (lo n : Nat) : Tr := fun p => match p with
  | [] => t []
  | x :: r => if lo ≤ x ∧ x < lo + n then none else t (x :: r)
theorem cutR_some {t : Tr} {lo n i k : Nat} {p : List Nat} (h : t.cutR lo n (i :: p) = some k) : t (i :: p) = some k := by
  have h' : (if lo ≤ i ∧ i < lo + n then none else t (i :: p)) = some k := h
  split at h'
  · cases h'
  · exact h'
theorem cutR_in {t : Tr} {lo n x : Nat} (h : lo ≤ x ∧ x < lo + n) (p : List Nat) : (t.cutR lo n).sub x p = none := by
  show (if lo ≤ x ∧ x < lo + n then none else t (x :: p)) = none
  rw [if_pos h]
theorem cutR_out {t : Tr} {lo n x : Nat} (h : ¬ (lo ≤ x ∧ x < lo + n)) : (t.cutR lo n).sub x = t.sub x := by
  funext p
  show (if lo ≤ x ∧ x < lo + n then none else t (x :: p)) = t (x :: p)
  rw [if_neg h]
/-- A leaf in another world. -/
theorem LfD.mvw {Zf Zf' : Fl → Nat → Prop} {w w' : World} {ρ ρ' : Nat → Value} {bk bk' : Nat → Blk} (m : Mv Zf Zf' w w' ρ ρ' bk bk') {op op' : Bool} (hop : op = true → op' = true) {t : Tr} {dd : Ds} {lv : AV} {u : Value} (h : LfD Zf w ρ bk op t dd lv u) (ht : ∀ p k, t p = some k → w'.heap[k]? = w.heap[k]?) : LfD Zf' w' ρ' bk' op' t dd lv u := by
  rcases h with h | ⟨c, h0, h1, h2, h3, h4⟩
  · exact .inl (h.move (m.hz .n) ht)
  · exact .inr ⟨c, hop h0, h1, (m.hr c h2).1, h3.trans (m.hr c h2).2.symm, h4⟩
theorem RepC.mvw {Zf Zf' : Fl → Nat → Prop} {w w' : World} {ρ ρ' : Nat → Value} {bk bk' : Nat → Blk} (m : Mv Zf Zf' w w' ρ ρ' bk bk') {x : AV} {u : Value} (h : RepC Zf w ρ bk x u) : RepC Zf' w' ρ' bk' x u := RepC.move m h
/-- A deep row's cells turn: its header stays, what it holds shrinks. -/
theorem okv_setD {op op' : Bool} {ds : List Ds} {b e sz : Nat} {xs xs' : List AV} {lk tl : List Nat} (hd : o.dst = none) (hb : gB s.bk b = .drow op ds e sz xs) (T : Tr → Tr) (hT : ∀ t i p k, T t (i :: p) = some k → t (i :: p) = some k)
    (h : ∀ tm bk ρ Zn a w (t : Tr), Agree s lk (b :: tl) tm bk → St E nt ρ Zn tm bk a w → RowD (fz E Zn) w ρ bk op ds t e sz (ρ b) xs → ∃ n v w', (execOp a.eval o).run P w = .ok n w' ∧ (n = .value v ∨ (n = .skip ∧ v = undef)) ∧ w.grownBy w' (ρ b).ownBlock ∧ (∀ bk', Mv (fz E Zn) (fz E Zn) w w' ρ ρ bk bk' → (∀ i p k, t (i :: p) = some k → w'.heap[k]? = w.heap[k]?) → RowD (fz E Zn) w' ρ bk' op' ds (T t) e sz (ρ b) xs')) :
    Okv P E nt o s ⟨none, .junk, [(b, .drow op' ds e sz xs')]⟩ lk (b :: tl) := by
  intro tm bk hag a w ⟨ρ, Zn, hs⟩
  obtain ⟨ω, dd⟩ := hs.deep
  have hbk : bk b = .drow op ds e sz xs := (hag.2 b List.mem_cons_self).trans hb
  have hlive : live (bk b) = true := by rw [hbk]; rfl
  have hisD : isD (bk b) = true := by rw [hbk]; rfl
  have hrow := dd.row b _ _ _ _ _ hbk
  obtain ⟨n, v, w', h1, h1', hg, h2⟩ := h tm bk ρ Zn a w (ω b) hag hs hrow
  have ownk : ∀ k, (ρ b).ownBlock = some k → OwnD ρ ω bk b k := fun k hk => ⟨hlive, .inl (ownBlock_ref hk)⟩
  have hkeep : ∀ k, k < w.heap.size → ¬ (ρ b).ownBlock = some k → w'.heap[k]? = w.heap[k]? := fun k hk ho => hg.block k hk (fun e => ho e.symm)
  have tr := dd.tree b hisD
  obtain ⟨bk', hbk', k1, k3⟩ : ∃ bk' : Nat → Blk, upF bk [(b, .drow op' ds e sz xs')] = bk' ∧ bk' b = .drow op' ds e sz xs' ∧ ∀ x, x ≠ b → bk' x = bk x := ⟨_, upF_one .., if_pos rfl, fun x h1 => if_neg h1⟩
  obtain ⟨ω', o2, o3⟩ : ∃ ω' : Nat → Tr, ω' b = T (ω b) ∧ ∀ x, x ≠ b → ω' x = ω x := ⟨fun x => if x = b then T (ω b) else ω x, if_pos rfl, fun x h1 => if_neg h1⟩
  have ownb : ∀ k, OwnD ρ ω' bk' b k → OwnD ρ ω bk b k := fun k hk => by
    have h2 := hk.2
    rw [o2] at h2
    rcases h2 with h2 | ⟨_, y, p, h2⟩
    · exact ⟨hlive, .inl h2⟩
    · exact ⟨hlive, .inr ⟨hisD, y, p, hT _ _ _ _ h2⟩⟩
  refine ⟨n, v, w', h1, h1', ρ, Zn, ?_⟩
  rw [hd]
  show St E nt ρ Zn tm (upF bk [(b, .drow op' ds e sz xs')]) a w'
  rw [hbk']
  refine hs.updD dd ω' (fun i => i = b) hg.os hg.tape hg.output hg.size (fun k hk ho => hkeep k hk (fun e => ho b rfl (ownk k e))) (fun _ _ => rfl) (fun x hx => k3 x hx) (fun x hx => o3 x hx) (fun x hx hnf => ?_) (fun _ h => h) (fun _ h => .inl h) (fun x hx m => ?_) (fun x op1 ds1 e1 sz1 xs1 hx m hbx => ?_) (fun x hx hdx => ?_) (fun x k hx hk => ?_) (fun x k hx hk _ => ?_) (fun x y k hx hy hk hk' => hx.trans hy.symm) rfl rfl (fun i => .inl ⟨rfl, rfl⟩)
  · subst hx; rw [k1]; exact ⟨(fun h => by cases h), rfl⟩
  · subst hx; rw [k1]; trivial
  · subst hx
    rw [k1] at hbx
    injection hbx with a1 a2 a3 a4 a5
    subst a1; subst a2; subst a3; subst a4; subst a5
    rw [o2]
    exact h2 bk' m (fun i p k hk => hkeep k (dd.lt x k ⟨hlive, .inr ⟨hisD, i, p, hk⟩⟩) (fun e => tr.1 i p k hk (ownBlock_ref e)))
  · subst hx
    rw [o2]
    exact ⟨fun i p k hk => tr.1 i p k (hT _ _ _ _ hk), fun i p j q k hk hk' => tr.2 i p j q k (hT _ _ _ _ hk) (hT _ _ _ _ hk')⟩
  · subst hx; exact ⟨.inr ⟨x, rfl, ownb k hk⟩, (dd.out x k (ownb k hk)).2⟩
  · subst hx; exact Nat.lt_of_lt_of_le (dd.lt x k (ownb k hk)) hg.size
/-- A store into an element of a deep row. -/
theorem r_stD {T b e sz i j n : Nat} {op : Bool} {ds : List Ds} {p x : Operand} {y X X' : AV} {l xs zz : List AV} (hop : o.op = .store T p x) (hd : o.dst = none) (hp : opd s p = .elp b sz i j) (hb : gB s.bk b = .drow op ds e sz xs) (hx : opd s x = y) (hy : notT y = true) (hT : sizeIs P T n = true) (hn : Nat.beq y.leaves.length n = true)
    (hX : xs[i]? = some X) (hlt : LtA ds sz j y.leaves l) (hle : Nat.ble (j + n) sz = true) (hX' : X'.leaves = X.leaves.take j ++ l ++ X.leaves.drop (j + n)) (hzz : xs.set i X' = zz) :
    Okv P E nt o s ⟨none, .junk, [(b, .drow true ds e sz zz)]⟩ (lkO p ++ lkO x) [b] :=
  okv_setD hd hb (fun t => t.cutR (i * sz + j) n) (fun t i p k h => cutR_some h) fun tm bk ρ Zn a w t hag hs hrow => by
    subst hzz
    have h1 := St.opd (s := s) hs p (fun t ht => hag.1 t (List.mem_append_left _ ht))
    have h2 := St.opd (s := s) hs x (fun t ht => hag.1 t (List.mem_append_right _ ht))
    rw [hp] at h1
    rw [hx] at h2
    obtain ⟨_, g, n0, c0, h3, h4⟩ := rep_C00 h1 rfl
    have h5 := rep_A (rep_A_of h2 hy)
    have hn' := beq_t hn
    have hle' := Nat.le_of_ble_eq_true hle
    have hvl : (a.eval x).cells.toList.length = n := by rw [← h5.1]; exact hn'
    obtain ⟨h0, inner, hown, hl, hr⟩ := hrow
    have hi : i < xs.length := (List.getElem?_eq_some_iff.1 hX).1
    have hXl := hl i X hX
    have hll : l.length = n := by rw [← hlt.len]; exact hn'
    have hn0 : n0 = xs.length := by
      obtain ⟨A, c, e1, _⟩ := own_form hown
      rw [h3] at e1; injection e1
    subst hn0
    have hbound : i * sz + j + n ≤ xs.length * sz := by
      have : (i + 1) * sz ≤ xs.length * sz := Nat.mul_le_mul_right _ hi
      rw [Nat.succ_mul] at this
      omega
    obtain ⟨w', r1, r2, r3⟩ := own_store (P := P) hop h4 hT hvl (leaves_vals h5) hown h3 (by omega)
    refine ⟨.skip, undef, w', r1, .inr ⟨rfl, rfl⟩, r2, fun bk' m hk => ?_⟩
    have hin : inner.length = xs.length * sz := hown.1
    refine ⟨h0, _, by rw [List.length_set]; exact r3, fun q z hz => ?_, fun q z k lv hz hk' => ?_⟩
    · by_cases e : i = q
      · subst e
        rw [List.getElem?_set_self hi] at hz
        injection hz with hz
        subst hz
        rw [hX']
        simp only [List.length_append, List.length_take, List.length_drop]
        omega
      · rw [List.getElem?_set_ne e] at hz; exact hl q z hz
    · by_cases e : i = q
      · subst e
        rw [List.getElem?_set_self hi] at hz
        injection hz with hz
        subst hz
        rw [hX', midget (by omega) hll] at hk'
        rw [midget (by omega) hvl]
        by_cases h : k < j
        · rw [if_pos h] at hk'
          rw [if_pos (by omega)]
          obtain ⟨u, hu, hrep⟩ := hr i X k lv hX hk'
          refine ⟨u, hu, ?_⟩
          rw [cutR_out (by omega)]
          exact hrep.mvw m (fun _ => rfl) (fun p k h => hk _ p k h)
        · rw [if_neg h] at hk'
          rw [if_neg (by omega)]
          by_cases h' : k < j + n
          · rw [if_pos h'] at hk'
            rw [if_pos (by omega)]
            obtain ⟨x0, hx0, hlt0⟩ := hlt.get hk'
            obtain ⟨u, hu, hrep⟩ := h5.get hx0
            refine ⟨u, ?_, ?_⟩
            · rw [show i * sz + k - (i * sz + j) = k - j by omega]; exact hu
            · rw [show (j + (k - j)) % sz = k by rw [show j + (k - j) = k by omega]; exact Nat.mod_eq_of_lt (by omega)] at hlt0
              exact hlt0.ok (fun p => cutR_in (by omega) p) (RepC.mvw m hrep)
          · rw [if_neg h'] at hk'
            rw [if_neg (by omega)]
            obtain ⟨u, hu, hrep⟩ := hr i X k lv hX hk'
            refine ⟨u, hu, ?_⟩
            rw [cutR_out (by omega)]
            exact hrep.mvw m (fun _ => rfl) (fun p k h => hk _ p k h)
      · rw [List.getElem?_set_ne e] at hz
        obtain ⟨u, hu, hrep⟩ := hr q z k lv hz hk'
        have hks : k < sz := by rw [← hl q z hz]; exact (List.getElem?_eq_some_iff.1 hk').1
        have hout : ¬ (i * sz + j ≤ q * sz + k ∧ q * sz + k < i * sz + j + n) := by
          rcases Nat.lt_or_gt_of_ne e with hlt | hgt
          · have h6 : (i + 1) * sz ≤ q * sz := Nat.mul_le_mul_right _ hlt
            rw [Nat.succ_mul] at h6
            omega
          · have h6 : (q + 1) * sz ≤ i * sz := Nat.mul_le_mul_right _ hgt
            rw [Nat.succ_mul] at h6
            omega
        refine ⟨u, ?_, ?_⟩
        · rw [midget (by omega) hvl]
          by_cases h : q * sz + k < i * sz + j
          · rw [if_pos h]; exact hu
          · rw [if_neg h, if_neg (by omega)]; exact hu
        · rw [cutR_out hout]
          exact hrep.mvw m (fun _ => rfl) (fun p k h => hk _ p k h)
end
end Go.Proofs.YtahmbcgolnplgaaDoorA
