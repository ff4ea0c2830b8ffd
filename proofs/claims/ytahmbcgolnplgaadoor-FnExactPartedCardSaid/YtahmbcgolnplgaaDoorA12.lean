/- The abstract machine, twelfth part: slices made, stores, appends. No claim lies here. -/
import Derived.Test.YtahmbcgolnplgaaDoorA11
set_option linter.unusedVariables false
set_option linter.unusedSimpArgs false
namespace Go.Proofs.YtahmbcgolnplgaaDoorA
open Go

def plain : AV → Bool
  | .lit v => v.oneCell'
  | .sl .n _ _ => true
  | _ => false
theorem plain_rep {E : Env} {Zn : Nat → Prop} {w : World} {ρ : Nat → Value} {bk : Nat → Blk} {x : AV} {u : Value} (hx : plain x = true) (h : RepC (fz E Zn) w ρ bk x u) : RepV Zn w x u := by
  rcases h with h | ⟨_, _, _, rfl, _⟩
  · cases x with
    | lit v => obtain ⟨rfl, h1⟩ := h; exact .lit h1
    | sl z sz xs => cases z <;> first | exact h | cases hx
    | _ => cases hx
  · cases hx
theorem flat_get {sz : Nat} : ∀ {xs : List AV}, (∀ x ∈ xs, x.leaves.length = sz) → ∀ {j : Nat} {x : AV} {i : Nat} {lv : AV}, xs[j]? = some x → x.leaves[i]? = some lv → (xs.flatMap AV.leaves)[j * sz + i]? = some lv
  | [], _, j, x, i, lv, h, _ => by simp at h
  | y :: ys, hl, j, x, i, lv, hj, hi => by
    rw [List.flatMap_cons]
    cases j with
    | zero =>
      simp only [List.getElem?_cons_zero, Option.some.injEq] at hj
      subst hj
      rw [Nat.zero_mul, Nat.zero_add, List.getElem?_append_left (List.getElem?_eq_some_iff.1 hi).1]
      exact hi
    | succ j =>
      have hy := hl y List.mem_cons_self
      rw [List.getElem?_append_right (by rw [hy, Nat.succ_mul]; omega), hy, Nat.succ_mul, show j * sz + sz + i - sz = j * sz + i by omega]
      exact flat_get (fun x hx => hl x (List.mem_cons_of_mem _ hx)) (by simpa using hj) hi
theorem flat_len {sz : Nat} : ∀ {xs : List AV}, (∀ x ∈ xs, x.leaves.length = sz) → (xs.flatMap AV.leaves).length = xs.length * sz
  | [], _ => by simp
  | y :: ys, hl => by
    rw [List.flatMap_cons, List.length_append, hl y List.mem_cons_self, flat_len (fun x hx => hl x (List.mem_cons_of_mem _ hx)), List.length_cons, Nat.succ_mul]
    omega
def lensIs (sz : Nat) : List AV → Bool
  | [] => true
  | x :: r => Nat.beq x.leaves.length sz && lensIs sz r
theorem lensIs_get {sz : Nat} : ∀ {l : List AV}, lensIs sz l = true → ∀ x ∈ l, x.leaves.length = sz
  | [], _, x, h => by cases h
  | y :: r, h, x, hx => by
    have h' : (Nat.beq y.leaves.length sz && lensIs sz r) = true := h
    rw [Bool.and_eq_true] at h'
    rcases List.mem_cons.1 hx with hx | hx
    · rw [hx]; exact beq_t h'.1
    · exact lensIs_get h'.2 x hx
section
variable {P : Program} {E : Env} {nt : Nat} {s : S} {o : Oper} {d : Nat}
theorem sliceT_of {T e sz : Nat} (hT : sliceT P T e sz = true) : P.underlying T = some (.slice e) ∧ sizeIs P e sz = true := by
  unfold sliceT at hT
  cases hu : P.underlying T with
  | none => rw [hu] at hT; cases hT
  | some t =>
    cases t with
    | slice e' =>
      rw [hu] at hT
      simp only [Bool.and_eq_true] at hT
      have he := beq_t hT.1
      subst he
      exact ⟨rfl, hT.2⟩
    | _ => rw [hu] at hT; cases hT
def initA (zs : List Value) (sz len : Nat) : List AV := (List.range (len * sz)).map fun i => .lit (zs.getD (i % sz) undef)
theorem r_bs {T e sz len nb : Nat} {parts : Array (Nat × Operand)} {zs : List Value} {l xs : List AV} (hop : o.op = .buildSlice T len parts) (hd : o.dst = some d) (hlt : Nat.blt d nt = true) (hnb : gB s.bk nb = .fresh) (hT : sliceT P T e sz = true) (hz : zeroOf P e = some zs) (h1 : zs.all (·.oneCell') = true) (hzl : Nat.beq zs.length sz = true) (hsz : Nat.blt 0 sz = true) (hcap : Nat.ble (len * sz) 16777216 = true)
    (hl : fillS s ((List.range len).map fun i => (i * sz, sz)) (initA zs sz len) parts.toList = some l) (hx : xs.flatMap AV.leaves = l) (hxl : lensIs sz xs = true) (hlen : Nat.beq xs.length len = true) (hpl : l.all plain = true) : Okv P E nt o s ⟨some d, .row nb, [(nb, .row e sz xs)]⟩ (parts.toList.flatMap fun p => lkO p.2) [nb] :=
  okv_row hd hlt hnb fun tm bk ρ Zn a w hag hs => by
    obtain ⟨hu, hsi⟩ := sliceT_of hT
    have hzl := beq_t hzl
    have hsz' : 0 < sz := Nat.blt_eq ▸ hsz
    have hlen := beq_t hlen
    obtain ⟨z, h2, h3⟩ := zero_run hz w
    have hzs : z.cells.size = sz := by rw [← hzl, ← h3]; simp
    have hinit : Fa (RepC (fz E Zn) w ρ bk) (initA zs sz len) ((Array.range (len * sz)).map (z.cells[· % z.cells.size]!)).toList := by
      refine ⟨by simp [initA], fun i x v hx hv => ?_⟩
      unfold initA at hx
      rw [List.getElem?_map] at hx
      obtain ⟨i', hi', rfl⟩ := Option.map_eq_some_iff.1 hx
      have hi := (List.getElem?_eq_some_iff.1 hi').1
      rw [List.getElem?_range (by simpa using hi)] at hi'
      injection hi' with hi'
      subst hi'
      have hi2 : i < len * sz := by simpa using hi
      have hv' : v = z.cells[i % z.cells.size]! := by
        simp [hi2] at hv
        exact hv.symm
      have hmod : i % sz < sz := Nat.mod_lt _ hsz'
      have hgz : zs.getD (i % sz) undef = z.cells[i % z.cells.size]! := by
        rw [hzs, ← h3]
        have : i % sz < z.cells.size := by omega
        simp [this, List.getD_eq_getElem?_getD]
      rw [hv', ← hgz]
      refine .inl ⟨rfl, List.all_eq_true.1 h1 _ ?_⟩
      rw [List.getD_eq_getElem?_getD, List.getElem?_eq_getElem (by omega)]
      exact List.getElem_mem _
    obtain ⟨m', h4, h5⟩ := fill_ok (s := s) (Zf := fz E Zn) (w := w) (ρ := ρ) (bk := bk) (pl := (List.range len).map fun i => (i * sz, sz)) (place := fun i => some (i * sz, sz)) (fun i q h => by
      rw [List.getElem?_map] at h
      obtain ⟨i', hi', rfl⟩ := Option.map_eq_some_iff.1 h
      have hi := (List.getElem?_eq_some_iff.1 hi').1
      rw [List.getElem?_range (by simpa using hi)] at hi'
      injection hi' with hi'
      rw [hi']) (ev := a.eval) (m := (Array.range (len * sz)).map (z.cells[· % z.cells.size]!)) (fun p hp' hn => by
      have := St.opd (s := s) hs p.2 (fun t ht => hag.1 t (List.mem_flatMap.2 ⟨p, hp', ht⟩))
      exact rep_A (rep_A_of this hn)) hinit hl
    have hml : m'.toList.length = xs.length * sz := by rw [← h5.1, ← hx, flat_len (lensIs_get hxl)]
    refine ⟨.slice (some ⟨w.heap.size, 0, none⟩) len len, w.alloc (.cells m' e), ?_, World.grownBy_alloc w _ none, fun k hk => by simp [Value.ownBlock] at hk; omega, hsz', m'.toList, ?_, fun j x hj => lensIs_get hxl x (List.mem_of_getElem? hj), fun j x i lv hj hi => ?_⟩
    · unfold execOp
      simp only [hop]
      rw [Sem.run_bind]
      have hb : (Instr.buildSlice T len (parts.map fun (i, x) => (i, a.eval x))).run P w = .ok (.slice (some ⟨w.heap.size, 0, none⟩) len len) (w.alloc (.cells m' e)) := by
        have hle : ¬ (len * sz > 2 ^ 24) := by have := Nat.le_of_ble_eq_true hcap; omega
        have hpt : (parts.map fun (x : Nat × Operand) => (x.1, a.eval x.2)).toList = parts.toList.map fun p => (p.1, a.eval p.2) := by simp
        by_cases h0 : len * sz = 0
        · have hm0 : ((Array.range (len * sz)).map (z.cells[· % z.cells.size]!)) = #[] := by rw [h0]; simp
          unfold Instr.buildSlice
          rw [Sem.run_bind, run_underlying hu, Result.andThen_ok]
          simp only
          rw [Sem.run_bind, size_run hsi, Result.andThen_ok, if_neg hle, if_pos h0]
          have h4' := h4
          rw [hm0, ← hpt] at h4'
          have e0 : (Array.range (len * sz)).map (fun x => (#[] : Array Value)[x % (#[] : Array Value).size]!) = #[] := by rw [h0]; simp
          rw [Sem.run_bind, Sem.run_pure, Result.andThen_ok, e0, h4']
          simp [newRow]
        · unfold Instr.buildSlice
          rw [Sem.run_bind, run_underlying hu, Result.andThen_ok]
          simp only
          rw [Sem.run_bind, size_run hsi, Result.andThen_ok, if_neg hle, if_neg h0]
          have h4' := h4
          rw [← hpt] at h4'
          simp only [Sem.run_bind, Sem.run_pure, Result.andThen_ok, h2]
          rw [h4']
          simp [newRow]
      rw [hb]; rfl
    · refine ⟨hml, .inr ⟨w.heap.size, len, m', by rw [hlen], Nat.zero_le _, ⟨(0, 0), heap_alloc_new w _, .inl rfl⟩, by omega, ?_, ?_, ?_⟩⟩
      · have := Nat.le_of_ble_eq_true hcap
        have h9 : len ≤ len * sz := Nat.le_mul_of_pos_right _ hsz'
        simp only [maxLen]; omega
      · simpa [hlen] using hml
      · rw [← hml, List.take_length]
    · have hg := flat_get (lensIs_get hxl) hj hi
      rw [hx] at hg
      obtain ⟨v, hv, hr⟩ := h5.get hg
      refine ⟨v, hv, RepV.move (plain_rep (List.all_eq_true.1 hpl lv (List.mem_of_getElem? hg)) hr) (fun k hk => heap_alloc_old w _ k (hs.zn k hk).1) (fun _ h => h)⟩
def bytesIs (P : Program) (e bytes : Nat) : Bool := match P.info? e with
  | some i => Nat.beq i.bytes bytes
  | none => false
/-- Leaves of a zero value: nil slices as empty ones. -/
def ZL : List AV → List Value → Prop
  | [], [] => True
  | .lit u :: l, v :: r => u = v ∧ ZL l r
  | .sl _ sz [] :: l, v :: r => (v = .slice none 0 0 ∧ Nat.blt 0 sz = true) ∧ ZL l r
  | _, _ => False
theorem ZL_len : ∀ {l : List AV} {r : List Value}, ZL l r → l.length = r.length
  | [], [], _ => rfl
  | .lit u :: l, v :: r, h => by simp [ZL_len h.2]
  | .sl z sz [] :: l, v :: r, h => by simp [ZL_len h.2]
theorem ZL_get {Zn : Nat → Prop} {w : World} : ∀ {l : List AV} {r : List Value}, ZL l r → ∀ {i : Nat} {lv : AV}, l[i]? = some lv → ∃ u, r[i]? = some u ∧ (u.oneCell' = true → RepV Zn w lv u)
  | [], [], _, i, lv, h1 => by simp at h1
  | .lit u :: l, v :: r, h, i, lv, h1 => by
    cases i with
    | zero => simp at h1; subst h1; exact ⟨v, rfl, fun h3 => h.1 ▸ .lit (h.1 ▸ h3)⟩
    | succ i => exact ZL_get h.2 (i := i) (by simpa using h1)
  | .sl z sz [] :: l, v :: r, h, i, lv, h1 => by
    cases i with
    | zero => simp at h1; subst h1; exact ⟨v, rfl, fun _ => by rw [h.1.1]; exact repV_nil (by simpa using h.1.2)⟩
    | succ i => exact ZL_get h.2 (i := i) (by simpa using h1)
theorem r_ms {T e sz bytes nb : Nat} {x y : Operand} {k k' : IntKind} {m : Int} {zs : List Value} {v : AV} {xs : List AV} (hop : o.op = .makeSlice T x y) (hd : o.dst = some d) (hlt : Nat.blt d nt = true) (hnb : gB s.bk nb = .fresh) (hx : opd s x = .lit (.int k m)) (hy : opd s y = .lit (.int k' m)) (hT : sliceT P T e sz = true) (hz : zeroOf P e = some zs) (h1 : zs.all (·.oneCell') = true) (hzl : Nat.beq zs.length sz = true) (hsz : Nat.blt 0 sz = true) (hby : bytesIs P e bytes = true) (hb0 : Nat.blt 0 bytes = true)
    (h0 : 0 ≤ m) (hle : bytes * m.toNat ≤ 281474976710656) (hv : ZL v.leaves zs) (hxs : List.replicate m.toNat v = xs) : Okv P E nt o s ⟨some d, .row nb, [(nb, .row e sz xs)]⟩ (lkO x ++ lkO y) [nb] :=
  okv_row hd hlt hnb fun tm bk ρ Zn a w hag hs => by
    obtain ⟨hu, hsi⟩ := sliceT_of hT
    have hzl := beq_t hzl
    have hsz' : 0 < sz := Nat.blt_eq ▸ hsz
    have hb0' : 0 < bytes := Nat.blt_eq ▸ hb0
    have e1 := St.opd (s := s) hs x (fun t ht => hag.1 t (List.mem_append_left _ ht))
    have e2 := St.opd (s := s) hs y (fun t ht => hag.1 t (List.mem_append_right _ ht))
    rw [hx] at e1
    rw [hy] at e2
    have e1 := rep_lit e1
    have e2 := rep_lit e2
    unfold zeroOf at hz
    unfold bytesIs at hby
    unfold sizeIs at hsi
    cases hi : P.info? e with
    | none => rw [hi] at hz; cases hz
    | some i =>
      rw [hi] at hz hby hsi
      simp only at hz
      cases hzz : i.zero with
      | none => rw [hzz] at hz; cases hz
      | some z =>
        rw [hzz] at hz
        injection hz with hz
        have hm : m = ((m.toNat : Nat) : Int) := (Int.toNat_of_nonneg h0).symm
        have hlem : m.toNat ≤ maxLen := by
          have : m.toNat ≤ bytes * m.toNat := Nat.le_mul_of_pos_left _ hb0'
          simp only [maxLen]; omega
        obtain ⟨w', hr, ho, hg⟩ := run_make_full (P := P) w 0 T e i z sz hu hi hzz (beq_t hsi) k k' m.toNat (by rw [beq_t hby]; exact hle) hlem (Nat.zero_le _)
        rw [← hm] at hr
        have hlx : xs.length = m.toNat := by rw [← hxs]; simp
        refine ⟨.slice (some ⟨w.heap.size, 0, none⟩) m.toNat m.toNat, w', ?_, hg, fun q hq => by simp [Value.ownBlock] at hq; omega, hsz', _, by rw [hlx]; exact ownsR.of ho, fun j x hj => ?_, fun j x i' lv hj hi' => ?_⟩
        · unfold execOp
          simp only [hop]
          rw [Sem.run_bind, e1, e2, hr]; rfl
        · rw [← hxs] at hj
          have := List.eq_of_mem_replicate (List.mem_of_getElem? hj)
          rw [this, ZL_len hv]; exact hzl
        · have hjl : j < m.toNat := by rw [← hlx]; exact (List.getElem?_eq_some_iff.1 hj).1
          rw [← hxs] at hj
          have := List.eq_of_mem_replicate (List.mem_of_getElem? hj)
          subst this
          obtain ⟨u, hu', hur⟩ := ZL_get (Zn := Zn) (w := w') hv hi'
          have hil : i' < sz := by rw [← hzl]; exact (List.getElem?_eq_some_iff.1 hu').1
          have hzc : z.cells.size = sz := by rw [← hzl, ← hz]; simp
          refine ⟨u, ?_, hur (List.all_eq_true.1 h1 u (List.mem_of_getElem? hu'))⟩
          have hlt2 : j * sz + i' < m.toNat * sz := by
            have : (j + 1) * sz ≤ m.toNat * sz := Nat.mul_le_mul_right _ hjl
            rw [Nat.succ_mul] at this
            omega
          have hmod : (j * sz + i') % sz = i' := by rw [Nat.add_comm, Nat.add_mul_mod_self_right]; exact Nat.mod_eq_of_lt hil
          have hmm : i' < z.cells.size := by omega
          rw [← hz] at hu'
          have hzi : z.cells[i']! = u := by
            rw [getElem!_pos z.cells i' hmm]
            rw [Array.getElem?_toList, Array.getElem?_eq_getElem hmm] at hu'
            injection hu'
          simp [madeCells, hlt2, hzc, hmod, hzi]
end
end Go.Proofs.YtahmbcgolnplgaaDoorA
