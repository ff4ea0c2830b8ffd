/- The abstract machine, twenty-seventh part: deep rows: building, appending, freezing. No claim lies here. -/
import Derived.Test.YtahmbcgolnplgaaDoorA26
set_option linter.unusedVariables false
set_option linter.unusedSimpArgs false
namespace Go.Proofs.YtahmbcgolnplgaaDoorA
open Go Go.RowKit
theorem own_ref {w : World} {e sz n k : Nat} {v : Value} {inner : List Value} (h : ownsR w 0 e sz v n inner) (hk : refB v = some k) : v.ownBlock = some k := by
  obtain ⟨A, c, rfl, _⟩ := own_form h
  cases A with
  | none => cases hk
  | some a => exact hk
theorem own_lt {w : World} {e sz n k : Nat} {v : Value} {inner : List Value} (h : ownsR w 0 e sz v n inner) (hk : refB v = some k) : k < w.heap.size := (h.lt k (own_ref h hk)).2
section
variable {P : Program} {E : Env} {nt : Nat} {s : S} {o : Oper} {d : Nat}
/-- A deep row comes, with nothing packed in it. -/
theorem okv_rowD {ds : List Ds} {nb e sz : Nat} {xs : List AV} {lk tl : List Nat} (hd : o.dst = some d) (hlt : Nat.blt d nt = true) (hnb : gB s.bk nb = .fresh)
    (h : ∀ tm bk ρ Zn a w, Agree s lk (nb :: tl) tm bk → St E nt ρ Zn tm bk a w → ∃ v w', (execOp a.eval o).run P w = .ok (.value v) w' ∧ w.grownBy w' none ∧ (∀ k, v.ownBlock = some k → w.heap.size ≤ k) ∧ ∀ ρ' bk', Mv (fz E Zn) (fz E Zn) w w' ρ ρ' bk bk' → RowD (fz E Zn) w' ρ' bk' true ds (fun _ => none) e sz v xs) :
    Okv P E nt o s ⟨some d, .row nb, [(nb, .drow true ds e sz xs)]⟩ lk (nb :: tl) := by
  intro tm bk hag a w ⟨ρ, Zn, hs⟩
  obtain ⟨v, w', h1, hg, hv, hrow⟩ := h tm bk ρ Zn a w hag hs
  have hf : bk nb = .fresh := (hag.2 nb List.mem_cons_self).trans hnb
  have hsame : ∀ k, k < w.heap.size → w'.heap[k]? = w.heap[k]? := fun k hk => hg.block k hk (by simp)
  obtain ⟨ω, dd⟩ := hs.deep
  obtain ⟨bk', hbk', k1, k3⟩ : ∃ bk' : Nat → Blk, upF bk [(nb, .drow true ds e sz xs)] = bk' ∧ bk' nb = .drow true ds e sz xs ∧ ∀ x, x ≠ nb → bk' x = bk x := ⟨_, upF_one .., if_pos rfl, fun x h1 => if_neg h1⟩
  obtain ⟨ρ', e1, e2⟩ : ∃ ρ' : Nat → Value, ρ' nb = v ∧ ∀ x, x ≠ nb → ρ' x = ρ x := ⟨fun x => if x = nb then v else ρ x, if_pos rfl, fun x h => if_neg h⟩
  obtain ⟨ω', o2, o3⟩ : ∃ ω' : Nat → Tr, ω' nb = (fun _ => none) ∧ ∀ x, x ≠ nb → ω' x = ω x := ⟨fun x => if x = nb then (fun _ => none) else ω x, if_pos rfl, fun x h1 => if_neg h1⟩
  have hz : ∀ z k, fz E Zn z k → w'.heap[k]? = w.heap[k]? ∧ fz E Zn z k := fun z k hk => ⟨hsame k (by
    cases z with
    | o => rcases hk with hk | hk
           · exact Nat.lt_of_lt_of_le (hs.z0 k hk) hs.size
           · exact (hs.zn k hk).1
    | n => exact (hs.zn k hk).1
    | u => exact Nat.lt_of_lt_of_le (hs.z0 k (hs.zy k hk)) hs.size), hk⟩
  have m0 : Mv (fz E Zn) (fz E Zn) w w' ρ ρ' bk bk' := ⟨hz, fun b hb => by
    have hne : b ≠ nb := fun e => hb (e ▸ hf)
    exact ⟨by rw [k3 b hne]; exact hb, e2 b hne⟩⟩
  have hR := hrow ρ' bk' m0
  have hown : ∃ inner, ownsR w' 0 e sz v xs.length inner := by obtain ⟨_, inner, ho, _⟩ := hR; exact ⟨inner, ho⟩
  obtain ⟨inner, ho⟩ := hown
  have ownb : ∀ k, OwnD ρ' ω' bk' nb k → refB v = some k := fun k hk => by
    have h2 := hk.2
    rw [o2, e1] at h2
    rcases h2 with h2 | ⟨_, y, p, h2⟩
    · exact h2
    · cases h2
  refine ⟨_, v, w', h1, .inl rfl, ρ', Zn, ?_⟩
  rw [hd, hbk']
  have h3 : St E nt ρ' Zn tm bk' a w' := by
    refine hs.updD dd ω' (fun i => i = nb) hg.os hg.tape hg.output hg.size (fun k hk _ => hsame k hk) (fun x hx => e2 x hx) (fun x hx => k3 x hx) (fun x hx => o3 x hx) (fun x hx hnf => absurd (hx ▸ hf) hnf) (fun _ h => h) (fun _ h => .inl h) (fun x hx m => ?_) (fun x op1 ds1 a1 sz1 xs1 hx m hbx => ?_) (fun x hx hdx => ?_) (fun x k hx hk => ?_) (fun x k hx hk _ => ?_) (fun x y k hx hy hk hk' => hx.trans hy.symm) rfl rfl (fun i => .inl ⟨rfl, rfl⟩)
    · subst hx; rw [k1]; trivial
    · subst hx
      rw [k1] at hbx
      injection hbx with a1 a2 a3 a4 a5
      subst a1; subst a2; subst a3; subst a4; subst a5
      rw [o2, e1]
      exact hR
    · subst hx
      rw [o2]
      exact ⟨(fun i p k hk => by cases hk), (fun i p j q k hk => by cases hk)⟩
    · subst hx
      have h4 := hv k (own_ref ho (ownb k hk))
      exact ⟨.inl h4, fun hz => absurd (hs.zn _ hz).1 (by omega)⟩
    · subst hx; exact own_lt ho (ownb k hk)
  refine h3.put hlt (rep_of_C (.inl ⟨?_, e1.symm, ?_⟩))
  · rw [k1]; exact fun h => by cases h
  · exact ownsRow_one ho
theorem r_bsD {T e sz len nb : Nat} {ds : List Ds} {parts : Array (Nat × Operand)} {zs : List Value} {l xs : List AV} (hop : o.op = .buildSlice T len parts) (hd : o.dst = some d) (hlt : Nat.blt d nt = true) (hnb : gB s.bk nb = .fresh) (hT : sliceT P T e sz = true) (hz : zeroOf P e = some zs) (h1 : zs.all (·.oneCell') = true) (hzl : Nat.beq zs.length sz = true) (hsz : Nat.blt 0 sz = true) (hcap : Nat.ble (len * sz) 16777216 = true)
    (hl : fillS s ((List.range len).map fun i => (i * sz, sz)) (initA zs sz len) parts.toList = some l) (hx : LtA ds sz 0 l (xs.flatMap AV.leaves)) (hxl : lensIs sz xs = true) (hlen : Nat.beq xs.length len = true) : Okv P E nt o s ⟨some d, .row nb, [(nb, .drow true ds e sz xs)]⟩ (parts.toList.flatMap fun p => lkO p.2) [nb] :=
  okv_rowD hd hlt hnb fun tm bk ρ Zn a w hag hs => by
    obtain ⟨hu, hsi⟩ := sliceT_of hT
    have hzl := beq_t hzl
    have hsz' : 0 < sz := Nat.blt_eq ▸ hsz
    have hlen := beq_t hlen
    obtain ⟨z, h2, h3⟩ := zero_run hz w
    have hzs : z.cells.size = sz := by rw [← hzl, ← h3]; simp
    have hinit : Fa (RepC (fz E Zn) w ρ bk) (initA zs sz len) ((Array.range (len * sz)).map (z.cells[· % z.cells.size]!)).toList := by
      refine ⟨by simp [initA], fun i x v hx hv => ?_⟩
      unfold initA at hx
      rw [List.getElem?_map] at hx
      obtain ⟨i', hi', rfl⟩ := Option.map_eq_some_iff.1 hx
      have hi := (List.getElem?_eq_some_iff.1 hi').1
      rw [List.getElem?_range (by simpa using hi)] at hi'
      injection hi' with hi'
      subst hi'
      have hi2 : i < len * sz := by simpa using hi
      have hv' : v = z.cells[i % z.cells.size]! := by
        simp [hi2] at hv
        exact hv.symm
      have hmod : i % sz < sz := Nat.mod_lt _ hsz'
      have hgz : zs.getD (i % sz) undef = z.cells[i % z.cells.size]! := by
        rw [hzs, ← h3]
        have : i % sz < z.cells.size := by omega
        simp [this, List.getD_eq_getElem?_getD]
      rw [hv', ← hgz]
      refine .inl ⟨rfl, List.all_eq_true.1 h1 _ ?_⟩
      rw [List.getD_eq_getElem?_getD, List.getElem?_eq_getElem (by omega)]
      exact List.getElem_mem _
    obtain ⟨m', h4, h5⟩ := fill_ok (s := s) (Zf := fz E Zn) (w := w) (ρ := ρ) (bk := bk) (pl := (List.range len).map fun i => (i * sz, sz)) (place := fun i => some (i * sz, sz)) (fun i q h => by
      rw [List.getElem?_map] at h
      obtain ⟨i', hi', rfl⟩ := Option.map_eq_some_iff.1 h
      have hi := (List.getElem?_eq_some_iff.1 hi').1
      rw [List.getElem?_range (by simpa using hi)] at hi'
      injection hi' with hi'
      rw [hi']) (ev := a.eval) (m := (Array.range (len * sz)).map (z.cells[· % z.cells.size]!)) (fun p hp' hn => by
      have := St.opd (s := s) hs p.2 (fun t ht => hag.1 t (List.mem_flatMap.2 ⟨p, hp', ht⟩))
      exact rep_A (rep_A_of this hn)) hinit hl
    have hfl : (xs.flatMap AV.leaves).length = xs.length * sz := flat_len (lensIs_get hxl)
    have hml : m'.toList.length = xs.length * sz := by rw [← h5.1, hx.len, hfl]
    refine ⟨.slice (some ⟨w.heap.size, 0, none⟩) len len, w.alloc (.cells m' e), ?_, World.grownBy_alloc w _ none, fun k hk => by simp [Value.ownBlock] at hk; omega, fun ρ' bk' m => ⟨hsz', m'.toList, ?_, fun j x hj => lensIs_get hxl x (List.mem_of_getElem? hj), fun j x i lv hj hi => ?_⟩⟩
    · unfold execOp
      simp only [hop]
      rw [Sem.run_bind]
      have hb : (Instr.buildSlice T len (parts.map fun (i, x) => (i, a.eval x))).run P w = .ok (.slice (some ⟨w.heap.size, 0, none⟩) len len) (w.alloc (.cells m' e)) := by
        have hle : ¬ (len * sz > 2 ^ 24) := by have := Nat.le_of_ble_eq_true hcap; omega
        have hpt : (parts.map fun (x : Nat × Operand) => (x.1, a.eval x.2)).toList = parts.toList.map fun p => (p.1, a.eval p.2) := by simp
        by_cases h0 : len * sz = 0
        · have hm0 : ((Array.range (len * sz)).map (z.cells[· % z.cells.size]!)) = #[] := by rw [h0]; simp
          unfold Instr.buildSlice
          rw [Sem.run_bind, run_underlying hu, Result.andThen_ok]
          simp only
          rw [Sem.run_bind, size_run hsi, Result.andThen_ok, if_neg hle, if_pos h0]
          have h4' := h4
          rw [hm0, ← hpt] at h4'
          have e0 : (Array.range (len * sz)).map (fun x => (#[] : Array Value)[x % (#[] : Array Value).size]!) = #[] := by rw [h0]; simp
          rw [Sem.run_bind, Sem.run_pure, Result.andThen_ok, e0, h4']
          simp [newRow]
        · unfold Instr.buildSlice
          rw [Sem.run_bind, run_underlying hu, Result.andThen_ok]
          simp only
          rw [Sem.run_bind, size_run hsi, Result.andThen_ok, if_neg hle, if_neg h0]
          have h4' := h4
          rw [← hpt] at h4'
          simp only [Sem.run_bind, Sem.run_pure, Result.andThen_ok, h2]
          rw [h4']
          simp [newRow]
      rw [hb]; rfl
    · refine ⟨hml, .inr ⟨w.heap.size, len, m', by rw [hlen], Nat.zero_le _, ⟨(0, 0), heap_alloc_new w _, .inl rfl⟩, by omega, ?_, ?_, ?_⟩⟩
      · have := Nat.le_of_ble_eq_true hcap
        have h9 : len ≤ len * sz := Nat.le_mul_of_pos_right _ hsz'
        simp only [maxLen]; omega
      · simpa [hlen] using hml
      · rw [← hml, List.take_length]
    · have hg := flat_get (lensIs_get hxl) hj hi
      have his : i < sz := by rw [← lensIs_get hxl x (List.mem_of_getElem? hj)]; exact (List.getElem?_eq_some_iff.1 hi).1
      obtain ⟨y, hy, hyl⟩ := hx.get hg
      obtain ⟨v, hv, hr⟩ := h5.get hy
      refine ⟨v, hv, ?_⟩
      rw [show (0 + (j * sz + i)) % sz = i by rw [Nat.zero_add, Nat.add_comm, Nat.add_mul_mod_self_right]; exact Nat.mod_eq_of_lt his] at hyl
      exact hyl.ok (fun _ => rfl) (RepC.mvw m hr)
def Tr.app (t u : Tr) (n : Nat) : Tr := fun p => match p with
  | [] => none
  | x :: r => if x < n then t (x :: r) else u ((x - n) :: r)
theorem app_l {t u : Tr} {n x : Nat} (h : x < n) : (t.app u n).sub x = t.sub x := by
  funext p
  show (if x < n then t (x :: p) else u ((x - n) :: p)) = t (x :: p)
  rw [if_pos h]
theorem app_r {t u : Tr} {n x : Nat} (h : n ≤ x) : (t.app u n).sub x = u.sub (x - n) := by
  funext p
  show (if x < n then t (x :: p) else u ((x - n) :: p)) = u ((x - n) :: p)
  rw [if_neg (by omega)]
theorem app_some {t u : Tr} {n x k : Nat} {p : List Nat} (h : t.app u n (x :: p) = some k) : (x < n ∧ t (x :: p) = some k) ∨ (n ≤ x ∧ u ((x - n) :: p) = some k) := by
  have h' : (if x < n then t (x :: p) else u ((x - n) :: p)) = some k := h
  split at h'
  · exact .inl ⟨‹_›, h'⟩
  · exact .inr ⟨by omega, h'⟩
theorem upF_three (bk : Nat → Blk) (b c q : Nat) (x y z : Blk) : upF bk [(b, x), (c, y), (q, z)] = fun i => if i = b then x else if i = c then y else if i = q then z else bk i := by
  rw [show [(b, x), (c, y), (q, z)] = [(b, x)] ++ [(c, y), (q, z)] from rfl, upF_app, upF_one, upF_two]
/-- append of a deep row to another. -/
theorem r_apD {T e sz bytes b c nb : Nat} {op1 op2 : Bool} {ds : List Ds} {x y : Operand} {zs : List Value} {xs ys zz : List AV} (hop : o.op = .call { callee := .builtin .append, args := #[x, y], argTypes := #[T, T] }) (hd : o.dst = some d) (hlt : Nat.blt d nt = true) (hnb : gB s.bk nb = .fresh) (hx : opd s x = .row b) (hb : gB s.bk b = .drow op1 ds e sz xs) (hy : opd s y = .row c) (hc : gB s.bk c = .drow op2 ds e sz ys) (hbc : Nat.beq b c = false) (hT : sliceT P T e sz = true) (hz : zeroOf P e = some zs) (hzl : Nat.beq zs.length sz = true) (hby : bytesIs P e bytes = true) (hb0 : Nat.blt 0 bytes = true)
    (hlen : (xs.length + ys.length) * bytes ≤ 140737488355328) (hzz : xs ++ ys = zz) : Okv P E nt o s ⟨some d, .row nb, [(b, .gone), (c, .gone), (nb, .drow true ds e sz zz)]⟩ (lkO x ++ lkO y) [nb, b, c] := by
  subst hzz
  intro tm bk hag a w ⟨ρ, Zn, hs⟩
  obtain ⟨ω, dd⟩ := hs.deep
  have hbc := beq_f hbc
  have hf : bk nb = .fresh := (hag.2 nb (by simp)).trans hnb
  have hbk : bk b = .drow op1 ds e sz xs := (hag.2 b (by simp)).trans hb
  have hck : bk c = .drow op2 ds e sz ys := (hag.2 c (by simp)).trans hc
  have hbn : b ≠ nb := fun e => by rw [e, hf] at hbk; cases hbk
  have hcn : c ≠ nb := fun e => by rw [e, hf] at hck; cases hck
  have hlb : live (bk b) = true := by rw [hbk]; rfl
  have hDb : isD (bk b) = true := by rw [hbk]; rfl
  have hlc : live (bk c) = true := by rw [hck]; rfl
  have hDc : isD (bk c) = true := by rw [hck]; rfl
  have g1 := St.opd (s := s) hs x (fun t ht => hag.1 t (List.mem_append_left _ ht))
  have g2 := St.opd (s := s) hs y (fun t ht => hag.1 t (List.mem_append_right _ ht))
  rw [hx] at g1
  rw [hy] at g2
  obtain ⟨_, g1, _⟩ := rep_C00 g1 rfl
  obtain ⟨_, g2, _⟩ := rep_C00 g2 rfl
  obtain ⟨h0, in1, ho1, hl1, hr1⟩ := dd.row b _ _ _ _ _ hbk
  obtain ⟨_, in2, ho2, hl2, hr2⟩ := dd.row c _ _ _ _ _ hck
  have hone : ∀ u ∈ in2, u.oneCell' = true := fun u hu => by
    obtain ⟨q, hq, rfl⟩ := List.getElem_of_mem hu
    have hq' : q < ys.length * sz := by rw [← ho2.1]; exact hq
    have hj : q / sz < ys.length := Nat.div_lt_of_lt_mul (by rw [Nat.mul_comm]; exact hq')
    have hi : q % sz < sz := Nat.mod_lt _ h0
    obtain ⟨u, hu, hv⟩ := hr2 _ _ _ _ (List.getElem?_eq_getElem hj) (List.getElem?_eq_getElem (by rw [hl2 _ _ (List.getElem?_eq_getElem hj)]; exact hi))
    rw [Nat.mul_comm, Nat.div_add_mod, List.getElem?_eq_getElem hq] at hu
    injection hu with hu
    rw [hu]; exact hv.one
  obtain ⟨v, w', r1, hg, r3, ho⟩ := append_runV (P := P) (ty := o.type) hT hz hzl hby hb0 h0 ho1 ho2 hone hlen
  have hkeep : ∀ k, k < w.heap.size → ¬ (ρ b).ownBlock = some k → w'.heap[k]? = w.heap[k]? := fun k hk ho => hg.block k hk (fun e => ho e.symm)
  obtain ⟨bk', hbk', k1, k2, k4, k3⟩ : ∃ bk' : Nat → Blk, upF bk [(b, .gone), (c, .gone), (nb, .drow true ds e sz (xs ++ ys))] = bk' ∧ bk' b = .gone ∧ bk' c = .gone ∧ bk' nb = .drow true ds e sz (xs ++ ys) ∧ ∀ x, x ≠ b → x ≠ c → x ≠ nb → bk' x = bk x := ⟨_, upF_three .., if_pos rfl, (if_neg (Ne.symm hbc)).trans (if_pos rfl), (if_neg (Ne.symm hbn)).trans ((if_neg (Ne.symm hcn)).trans (if_pos rfl)), fun x h1 h2 h3 => (if_neg h1).trans ((if_neg h2).trans (if_neg h3))⟩
  obtain ⟨ρ', e1, e2⟩ : ∃ ρ' : Nat → Value, ρ' nb = v ∧ ∀ x, x ≠ nb → ρ' x = ρ x := ⟨fun x => if x = nb then v else ρ x, if_pos rfl, fun x h => if_neg h⟩
  obtain ⟨ω', o2, o3⟩ : ∃ ω' : Nat → Tr, ω' nb = (ω b).app (ω c) (xs.length * sz) ∧ ∀ x, x ≠ nb → ω' x = ω x := ⟨fun x => if x = nb then (ω b).app (ω c) (xs.length * sz) else ω x, if_pos rfl, fun x h1 => if_neg h1⟩
  have ownbN : ∀ i p k, ω b (i :: p) = some k → OwnD ρ ω bk b k := fun i p k h => ⟨hlb, .inr ⟨hDb, i, p, h⟩⟩
  have owncN : ∀ i p k, ω c (i :: p) = some k → OwnD ρ ω bk c k := fun i p k h => ⟨hlc, .inr ⟨hDc, i, p, h⟩⟩
  have sep : ∀ k, OwnD ρ ω bk b k → OwnD ρ ω bk c k → False := fun k h1 h2 => hbc (dd.sep b c k h1 h2)
  have rootN : ∀ k, refB v = some k → w.heap.size ≤ k ∨ OwnD ρ ω bk b k := fun k hk => by
    rcases r3 k (own_ref ho hk) with h | h
    · exact .inl h
    · exact .inr ⟨hlb, .inl (ownBlock_ref h)⟩
  have own' : ∀ k, OwnD ρ' ω' bk' nb k → w.heap.size ≤ k ∨ OwnD ρ ω bk b k ∨ OwnD ρ ω bk c k := fun k hk => by
    have h2 := hk.2
    rw [e1, o2] at h2
    rcases h2 with h2 | ⟨_, i, p, h2⟩
    · exact (rootN k h2).imp id .inl
    · rcases app_some h2 with ⟨_, h⟩ | ⟨_, h⟩
      · exact .inr (.inl (ownbN _ _ k h))
      · exact .inr (.inr (owncN _ _ k h))
  have trb := dd.tree b hDb
  have trc := dd.tree c hDc
  have hz : ∀ z k, fz E Zn z k → w'.heap[k]? = w.heap[k]? ∧ fz E Zn z k := fun z k hk => by
    have hout : k < w.heap.size ∧ ¬ OwnD ρ ω bk b k := by
      cases z with
      | o => rcases hk with hk | hk
             · exact ⟨Nat.lt_of_lt_of_le (hs.z0 k hk) hs.size, fun ho => (dd.out b k ho).1 hk⟩
             · exact ⟨(hs.zn k hk).1, fun ho => (dd.out b k ho).2 hk⟩
      | n => exact ⟨(hs.zn k hk).1, fun ho => (dd.out b k ho).2 hk⟩
      | u => exact ⟨Nat.lt_of_lt_of_le (hs.z0 k (hs.zy k hk)) hs.size, fun ho => (dd.out b k ho).1 (hs.zy k hk)⟩
    exact ⟨hkeep k hout.1 (fun e => hout.2 ⟨hlb, .inl (ownBlock_ref e)⟩), hk⟩
  refine ⟨_, v, w', append_exec hop (by rw [g1, g2]; exact r1), .inl rfl, ρ', Zn, ?_⟩
  rw [hd, hbk']
  have h3 : St E nt ρ' Zn tm bk' a w' := by
    refine hs.updD dd ω' (fun i => i = b ∨ i = c ∨ i = nb) hg.os hg.tape hg.output hg.size (fun k hk ho => hkeep k hk (fun e => ho b (.inl rfl) ⟨hlb, .inl (ownBlock_ref e)⟩)) (fun x hx => e2 x fun e => hx (.inr (.inr e))) (fun x hx => k3 x (fun e => hx (.inl e)) (fun e => hx (.inr (.inl e))) (fun e => hx (.inr (.inr e)))) (fun x hx => o3 x fun e => hx (.inr (.inr e))) (fun x hx hnf => ?_) (fun _ h => h) (fun _ h => .inl h) (fun x hx m => ?_) (fun x op1 ds1 a1 sz1 xs1 hx m hbx => ?_) (fun x hx hdx => ?_) (fun x k hx hk => ?_) (fun x k hx hk _ => ?_) (fun x y k hx hy hk hk' => ?_) rfl rfl (fun i => .inl ⟨rfl, rfl⟩)
    · rcases hx with rfl | rfl | rfl
      · rw [k1]; exact ⟨(fun h => by cases h), e2 _ hbn⟩
      · rw [k2]; exact ⟨(fun h => by cases h), e2 _ hcn⟩
      · exact absurd hf hnf
    · rcases hx with rfl | rfl | rfl
      · rw [k1]; trivial
      · rw [k2]; trivial
      · rw [k4]; trivial
    · rcases hx with rfl | rfl | rfl
      · rw [k1] at hbx; cases hbx
      · rw [k2] at hbx; cases hbx
      · rw [k4] at hbx
        injection hbx with a1 a2 a3 a4 a5
        subst a1; subst a2; subst a3; subst a4; subst a5
        rw [o2, e1]
        refine ⟨h0, in1 ++ in2, by rw [List.length_append]; exact ho, fun j x hj => ?_, fun j x i lv hj hi => ?_⟩
        · rcases Nat.lt_or_ge j xs.length with h | h
          · rw [List.getElem?_append_left h] at hj; exact hl1 j x hj
          · rw [List.getElem?_append_right h] at hj; exact hl2 _ x hj
        · rcases Nat.lt_or_ge j xs.length with h | h
          · rw [List.getElem?_append_left h] at hj
            have his : i < sz := by rw [← hl1 j x hj]; exact (List.getElem?_eq_some_iff.1 hi).1
            obtain ⟨u, hu, hv⟩ := hr1 j x i lv hj hi
            refine ⟨u, by rw [List.getElem?_append_left (List.getElem?_eq_some_iff.1 hu).1]; exact hu, ?_⟩
            have hlt : j * sz + i < xs.length * sz := by
              have := Nat.mul_le_mul_right sz h
              rw [Nat.succ_mul] at this
              omega
            rw [app_l hlt]
            exact hv.mvw m (fun _ => rfl) (fun p k hp => hkeep k (dd.lt b k (ownbN _ _ k hp)) (fun e => trb.1 _ _ k hp (ownBlock_ref e)))
          · rw [List.getElem?_append_right h] at hj
            obtain ⟨u, hu, hv⟩ := hr2 _ x i lv hj hi
            have e9 : j * sz + i = in1.length + ((j - xs.length) * sz + i) := by
              rw [ho1.1, Nat.sub_mul]
              have := Nat.mul_le_mul_right sz h
              omega
            have e10 : j * sz + i - xs.length * sz = (j - xs.length) * sz + i := by rw [← ho1.1]; omega
            refine ⟨u, by rw [e9, List.getElem?_append_right (by omega), Nat.add_sub_cancel_left]; exact hu, ?_⟩
            rw [app_r (by rw [← ho1.1]; omega), e10]
            exact hv.mvw m (fun _ => rfl) (fun p k hp => hkeep k (dd.lt c k (owncN _ _ k hp)) (fun e => sep k ⟨hlb, .inl (ownBlock_ref e)⟩ (owncN _ _ k hp)))
    · rcases hx with rfl | rfl | rfl
      · rw [k1] at hdx; cases hdx
      · rw [k2] at hdx; cases hdx
      · rw [o2, e1]
        refine ⟨fun i p k hk hk' => ?_, fun i p j q k hk hk' => ?_⟩
        · rcases app_some hk with ⟨_, h⟩ | ⟨_, h⟩
          · rcases r3 k (own_ref ho hk') with h4 | h4
            · exact absurd (dd.lt b k (ownbN _ _ k h)) (by omega)
            · exact trb.1 _ _ k h (ownBlock_ref h4)
          · rcases rootN k hk' with h4 | h4
            · exact absurd (dd.lt c k (owncN _ _ k h)) (by omega)
            · exact sep k h4 (owncN _ _ k h)
        · rcases app_some hk with ⟨h1, h⟩ | ⟨h1, h⟩ <;> rcases app_some hk' with ⟨h2, h'⟩ | ⟨h2, h'⟩
          · exact trb.2 _ _ _ _ k h h'
          · exact (sep k (ownbN _ _ k h) (owncN _ _ k h')).elim
          · exact (sep k (ownbN _ _ k h') (owncN _ _ k h)).elim
          · obtain ⟨h3, h4⟩ := trc.2 _ _ _ _ k h h'
            exact ⟨by omega, h4⟩
    · rcases hx with rfl | rfl | rfl
      · have h1 := hk.1; rw [k1] at h1; cases h1
      · have h1 := hk.1; rw [k2] at h1; cases h1
      · rcases own' k hk with h | h | h
        · exact ⟨.inl h, fun hz => absurd (hs.zn _ hz).1 (by omega)⟩
        · exact ⟨.inr ⟨b, .inl rfl, h⟩, (dd.out b k h).2⟩
        · exact ⟨.inr ⟨c, .inr (.inl rfl), h⟩, (dd.out c k h).2⟩
    · rcases hx with rfl | rfl | rfl
      · have h1 := hk.1; rw [k1] at h1; cases h1
      · have h1 := hk.1; rw [k2] at h1; cases h1
      · have h2 := hk.2
        rw [e1, o2] at h2
        rcases h2 with h2 | ⟨_, i, p, h2⟩
        · exact own_lt ho h2
        · rcases app_some h2 with ⟨_, h⟩ | ⟨_, h⟩
          · exact Nat.lt_of_lt_of_le (dd.lt b k (ownbN _ _ k h)) hg.size
          · exact Nat.lt_of_lt_of_le (dd.lt c k (owncN _ _ k h)) hg.size
    · have dead : ∀ {z}, z = b ∨ z = c → ¬ OwnD ρ' ω' bk' z k := fun {z} hz h => by
        have h1 := h.1
        rcases hz with rfl | rfl
        · rw [k1] at h1; cases h1
        · rw [k2] at h1; cases h1
      rcases hx with hx | hx | hx
      · exact absurd hk (dead (.inl hx))
      · exact absurd hk (dead (.inr hx))
      · rcases hy with hy | hy | hy
        · exact absurd hk' (dead (.inl hy))
        · exact absurd hk' (dead (.inr hy))
        · exact hx.trans hy.symm
  refine h3.put hlt (rep_of_C (.inl ⟨?_, e1.symm, ?_⟩))
  · rw [k4]; exact fun h => by cases h
  · exact ownsRow_one ho
end
end Go.Proofs.YtahmbcgolnplgaaDoorA
