/- The abstract machine, thirteenth part: stores and appends. No claim lies here. -/
import Derived.Test.YtahmbcgolnplgaaDoorA12
set_option linter.unusedVariables false
set_option linter.unusedSimpArgs false
namespace Go.Proofs.YtahmbcgolnplgaaDoorA
open Go
/-- Cells written within a block whose range lies past them. -/
theorem store_R (P : Program) {g o : Nat} {t : TypeId} : ∀ (vs : List Value) (i : Nat) {cur : Array Value} {w : World}, heapR w g cur t → o + i + vs.length ≤ cur.size → (∀ v ∈ vs, v.oneCell' = true) →
    (storeCells ⟨g, o, none⟩ vs i).run P w = .ok () (w.setRow g (cur.toList.take (o + i) ++ vs ++ cur.toList.drop (o + i + vs.length)).toArray) := by
  intro vs
  induction vs with
  | nil =>
    rintro i cur w ⟨fz, hg, hz⟩ hl h1
    simp only [storeCells, List.append_nil, List.length_nil, Nat.add_zero, List.take_append_drop, Array.toArray_toList]
    rw [setRow_self w g cur t fz hg]; rfl
  | cons v rest ih =>
    rintro i cur w ⟨fz, hg, hz⟩ hl h1
    simp only [List.length_cons] at hl
    have hi : o + i < cur.size := by omega
    have hfro : w.frozen? ⟨g, o + i, none⟩ = false := by
      obtain ⟨lo, up⟩ := fz
      simp only [World.frozen?, hg, Bool.and_eq_false_iff, decide_eq_false_iff_not]
      rcases hz with hz | hz
      · injection hz with h2 h3; right; omega
      · left; have := hz.1; dsimp only at this; omega
    have hst : (store ((⟨g, o, none⟩ : Addr).add i) v).run P w = .ok () (w.setRow g (cur.setIfInBounds (o + i) v)) := by
      rw [show (⟨g, o, none⟩ : Addr).add i = ⟨g, o + i, none⟩ by unfold Addr.add; split <;> simp_all, run_store P w _ v _ (h1 v List.mem_cons_self), show w.cell? ⟨g, o + i, none⟩ = some cur[o + i] by simp [World.cell?, hg, hi]]
      simp [hfro, setCell_eq_setRow w g (o + i) cur t fz v hg]
    have ih := ih (i + 1) (cur := cur.setIfInBounds (o + i) v) (w := w.setRow g (cur.setIfInBounds (o + i) v)) ⟨fz, setRow_heap w g cur _ t _ hg, by simpa using hz⟩ (by simp; omega) (fun x hx => h1 x (List.mem_cons_of_mem _ hx))
    simp only [storeCells, Sem.run_bind, hst, Result.andThen_ok, ih, setRow_setRow]
    congr 3
    have e := list_seg_step cur.toList (o + i) v rest (by simp; omega)
    simpa [Array.toList_setIfInBounds, Nat.add_assoc] using e
theorem setRow_R {w : World} {g : Nat} {cur : Array Value} {e : TypeId} (h : heapR w g cur e) {a n : Nat} {X : List Value} (hX : X.length = n) (hle : a + n ≤ cur.size) : heapR (w.setRow g (cur.toList.take a ++ X ++ cur.toList.drop (a + n)).toArray) g (cur.toList.take a ++ X ++ cur.toList.drop (a + n)).toArray e := by
  obtain ⟨fz, hg, hz⟩ := h
  refine ⟨fz, setRow_heap w g cur _ e _ hg, ?_⟩
  rcases hz with hz | hz
  · exact .inl hz
  · refine .inr ⟨?_, hz.2⟩
    have := hz.1
    simp only [List.size_toArray, List.length_append, List.length_take, List.length_drop, Array.length_toList]; omega

section
variable {P : Program} {E : Env} {nt : Nat} {s : S} {o : Oper} {d : Nat}
theorem ownBlock_ref {v : Value} {k : Nat} (h : v.ownBlock = some k) : refB v = some k := by
  cases v with
  | slice a n c => cases a with
    | none => cases h
    | some a => exact h
  | _ => cases h
/-- A box's cells turn. -/
theorem okv_set {b t : Nat} {cells cells' : List AV} {lk tl : List Nat} (hd : o.dst = none) (hb : gB s.bk b = .box t cells)
    (h : ∀ tm bk ρ Zn a w g (cs : List Value), Agree s lk (b :: tl) tm bk → St E nt ρ Zn tm bk a w → ρ b = .pointer (some ⟨g, 0, none⟩) → w.heap[g]? = some (.cells cs.toArray t (0, 0)) → Fa (RepC (fz E Zn) w ρ bk) cells cs → ∃ cs' : List Value, (execOp a.eval o).run P w = .ok .skip (w.setRow g cs'.toArray) ∧ Fa (RepC (fz E Zn) w ρ bk) cells' cs') :
    Okv P E nt o s ⟨none, .junk, [(b, .box t cells')]⟩ lk (b :: tl) := by
  intro tm bk hag a w ⟨ρ, Zn, hs⟩
  have hbk : bk b = .box t cells := (hag.2 b List.mem_cons_self).trans hb
  have hblk := hs.blk b
  rw [hbk] at hblk
  obtain ⟨g, cs, e1, e2, e3⟩ := hblk
  obtain ⟨cs', h1, h2⟩ := h tm bk ρ Zn a w g cs hag hs e1 e2 e3
  have hown : Own ρ bk b g := ⟨by rw [hbk]; rfl, by rw [e1]; rfl⟩
  refine ⟨_, undef, _, h1, .inr ⟨rfl, rfl⟩, ρ, Zn, ?_⟩
  rw [hd]
  have hsz : (w.setRow g cs'.toArray).heap.size = w.heap.size := by simp [World.setRow]
  refine hs.upd (fun i => i = b) rfl rfl rfl (by omega) (fun k hk ho => setRow_other w g k _ (fun e => ho b rfl (e ▸ hown))) (fun _ _ => rfl) (fun i hi => by rw [upF_one]; exact if_neg hi) (fun i hi hne => ?_) (fun _ h => h) (fun _ h => .inl h) (fun i hi m => ?_) (fun i k hi ho => ?_) (fun i j k hi hj _ _ => hi.trans hj.symm) rfl rfl (fun i => .inl ⟨rfl, rfl⟩) (fun i hi => by subst hi; rw [upF_one]; refine ⟨by rw [hbk]; rfl, ?_⟩; show isD (if i = i then _ else bk i) = false; rw [if_pos rfl]; rfl)
  · subst hi
    rw [upF_one]
    show (if i = i then _ else bk i) ≠ .fresh ∧ _
    rw [if_pos rfl]
    exact ⟨by simp, rfl⟩
  · subst hi
    rw [upF_one]
    show BlkOk _ _ _ _ _ (if i = i then _ else bk i)
    rw [if_pos rfl]
    rw [upF_one] at m
    exact ⟨g, cs', e1, setRow_heap w g _ _ t _ e2, h2.imp fun _ _ h => RepC.move m h⟩
  · subst hi
    have h3 : refB (ρ i) = some k := ho.2
    have : Own ρ bk i k := ⟨by rw [hbk]; rfl, h3⟩
    exact ⟨.inr ⟨i, rfl, this⟩, (hs.out i k this).2⟩
theorem midget {α : Type} {l m : List α} {a n q : Nat} (h : a + n ≤ l.length) (hm : m.length = n) : (l.take a ++ m ++ l.drop (a + n))[q]? = if q < a then l[q]? else if q < a + n then m[q - a]? else l[q]? := by
  have e1 : (l.take a).length = a := by simp; omega
  have e2 : (l.take a ++ m).length = a + n := by simp; omega
  by_cases h1 : q < a
  · rw [if_pos h1, List.append_assoc, List.getElem?_append_left (by omega), List.getElem?_take, if_pos h1]
  · rw [if_neg h1]
    by_cases h2 : q < a + n
    · rw [if_pos h2, List.append_assoc, List.getElem?_append_right (by omega), e1, List.getElem?_append_left (by omega)]
    · rw [if_neg h2, List.getElem?_append_right (by omega), e2, List.getElem?_drop, show a + n + (q - (a + n)) = q by omega]
theorem leaves_vals {Zf : Fl → Nat → Prop} {w : World} {ρ : Nat → Value} {bk : Nat → Blk} {l : List AV} {vs : List Value} (h : Fa (RepC Zf w ρ bk) l vs) : ∀ v ∈ vs, v.oneCell' = true := fun v hv => by
  obtain ⟨i, hi, rfl⟩ := List.getElem_of_mem hv
  obtain ⟨x, _, hr⟩ := h.get' (List.getElem?_eq_getElem hi)
  exact repC_one hr
/-- A store into a box. -/
theorem r_st {T b c t n : Nat} {p x : Operand} {y : AV} {cells cells' : List AV} (hop : o.op = .store T p x) (hd : o.dst = none) (hp : opd s p = .box b c) (hb : gB s.bk b = .box t cells) (hx : opd s x = y) (hy : notT y = true) (hT : sizeIs P T n = true) (hn : Nat.beq y.leaves.length n = true) (hle : Nat.ble (c + n) cells.length = true) (hc : cells.take c ++ y.leaves ++ cells.drop (c + n) = cells') :
    Okv P E nt o s ⟨none, .junk, [(b, .box t cells')]⟩ (lkO p ++ lkO x) [b] :=
  okv_set hd hb fun tm bk ρ Zn a w g cs hag hs e1 e2 e3 => by
    have h1 := St.opd (s := s) hs p (fun t ht => hag.1 t (List.mem_append_left _ ht))
    have h2 := St.opd (s := s) hs x (fun t ht => hag.1 t (List.mem_append_right _ ht))
    rw [hp] at h1
    rw [hx] at h2
    obtain ⟨_, g', h3, h4⟩ := rep_C00 h1 rfl
    rw [e1] at h3
    injection h3 with h3; injection h3 with h3; injection h3 with h3
    subst h3
    have h5 := rep_A (rep_A_of h2 hy)
    have hn' := beq_t hn
    have hle' := Nat.le_of_ble_eq_true hle
    have hvl : (a.eval x).cells.toList.length = n := by rw [← h5.1]; exact hn'
    have hcl := e3.1
    refine ⟨cs.take c ++ (a.eval x).cells.toList ++ cs.drop (c + n), ?_, ?_⟩
    · have hst := run_storeCells_at P g c t (a.eval x).cells.toList 0 cs.toArray w e2 (by simp at hvl ⊢; omega) (leaves_vals h5)
      unfold execOp
      simp only [hop]
      have hvs : (a.eval x).cells.size = n := by simpa using hvl
      simp only [Nat.add_zero] at hst
      rw [hvl] at hst
      simp [Instr.storeAt, Instr.sureAddr, h4, storeVar, size_run hT, hvs, hst]
    · rw [← hc]
      exact ((e3.take c).append h5).append (e3.drop (c + n))
/-- A row's cells turn: its header stays. -/
theorem okv_setR {b e sz : Nat} {xs xs' : List AV} {lk tl : List Nat} (hd : o.dst = none) (hb : gB s.bk b = .row e sz xs)
    (h : ∀ tm bk ρ Zn a w, Agree s lk (b :: tl) tm bk → St E nt ρ Zn tm bk a w → RowOk Zn w e sz (ρ b) xs → ∃ w', (execOp a.eval o).run P w = .ok .skip w' ∧ w.grownBy w' (ρ b).ownBlock ∧ ((∀ k, Zn k → w'.heap[k]? = w.heap[k]?) → RowOk Zn w' e sz (ρ b) xs')) :
    Okv P E nt o s ⟨none, .junk, [(b, .row e sz xs')]⟩ lk (b :: tl) := by
  intro tm bk hag a w ⟨ρ, Zn, hs⟩
  have hbk : bk b = .row e sz xs := (hag.2 b List.mem_cons_self).trans hb
  have hblk := hs.blk b
  rw [hbk] at hblk
  obtain ⟨w', h1, hg, h2⟩ := h tm bk ρ Zn a w hag hs hblk
  have ownk : ∀ k, (ρ b).ownBlock = some k → Own ρ bk b k := fun k hk => ⟨by rw [hbk]; rfl, ownBlock_ref hk⟩
  have hkeep : ∀ k, k < w.heap.size → ¬ Own ρ bk b k → w'.heap[k]? = w.heap[k]? := fun k hk ho => hg.block k hk (fun e => ho (ownk k e.symm))
  refine ⟨_, undef, _, h1, .inr ⟨rfl, rfl⟩, ρ, Zn, ?_⟩
  rw [hd]
  refine hs.upd (fun i => i = b) hg.os hg.tape hg.output hg.size (fun k hk ho => hkeep k hk (ho b rfl)) (fun _ _ => rfl) (fun i hi => by rw [upF_one]; exact if_neg hi) (fun i hi hne => ?_) (fun _ h => h) (fun _ h => .inl h) (fun i hi m => ?_) (fun i k hi ho => ?_) (fun i j k hi hj _ _ => hi.trans hj.symm) rfl rfl (fun i => .inl ⟨rfl, rfl⟩) (fun i hi => by subst hi; rw [upF_one]; refine ⟨by rw [hbk]; rfl, ?_⟩; show isD (if i = i then _ else bk i) = false; rw [if_pos rfl]; rfl)
  · subst hi
    rw [upF_one]
    show (if i = i then _ else bk i) ≠ .fresh ∧ _
    rw [if_pos rfl]
    exact ⟨by simp, rfl⟩
  · subst hi
    rw [upF_one]
    show BlkOk _ _ _ _ _ (if i = i then _ else bk i)
    rw [if_pos rfl]
    exact h2 (fun k hz => hkeep k (hs.zn k hz).1 (fun ho => (hs.out i k ho).2 hz))
  · subst hi
    have h3 : refB (ρ i) = some k := ho.2
    have : Own ρ bk i k := ⟨by rw [hbk]; rfl, h3⟩
    exact ⟨.inr ⟨i, rfl, this⟩, (hs.out i k this).2⟩
/-- A store into an element of the call's own row. -/
theorem r_stE {T b e sz i j n : Nat} {p x : Operand} {y v v' : AV} {xs xs' : List AV} (hop : o.op = .store T p x) (hd : o.dst = none) (hp : opd s p = .elp b sz i j) (hb : gB s.bk b = .row e sz xs) (hx : opd s x = y) (hy : notT y = true) (hpl : y.leaves.all plain = true) (hT : sizeIs P T n = true) (hn : Nat.beq y.leaves.length n = true)
    (hv : xs[i]? = some v) (hle : Nat.ble (j + n) v.leaves.length = true) (hv' : v'.leaves = v.leaves.take j ++ y.leaves ++ v.leaves.drop (j + n)) (hxs : xs.set i v' = xs') :
    Okv P E nt o s ⟨none, .junk, [(b, .row e sz xs')]⟩ (lkO p ++ lkO x) [b] :=
  okv_setR hd hb fun tm bk ρ Zn a w hag hs hrow => by
    have h1 := St.opd (s := s) hs p (fun t ht => hag.1 t (List.mem_append_left _ ht))
    have h2 := St.opd (s := s) hs x (fun t ht => hag.1 t (List.mem_append_right _ ht))
    rw [hp] at h1
    rw [hx] at h2
    obtain ⟨_, g, n0, c0, h3, h4⟩ := rep_C00 h1 rfl
    have h5 := rep_A (rep_A_of h2 hy)
    have hn' := beq_t hn
    have hle' := Nat.le_of_ble_eq_true hle
    have hvl : (a.eval x).cells.toList.length = n := by rw [← h5.1]; exact hn'
    obtain ⟨h0, inner, hown, hl, hr⟩ := hrow
    have hi : i < xs.length := (List.getElem?_eq_some_iff.1 hv).1
    have hvsz := hl i v hv
    rcases hown.2 with ⟨e1, e2⟩ | ⟨g', cap, cur, e1, _, hh, hnc, hcm, hcs, htk⟩
    · omega
    · rw [h3] at e1
      injection e1 with e1 e6 e7
      injection e1 with e1; injection e1 with e1
      subst e1
      have hbound : i * sz + j + n ≤ xs.length * sz := by
        have : (i + 1) * sz ≤ xs.length * sz := Nat.mul_le_mul_right _ hi
        rw [Nat.succ_mul] at this
        omega
      have hcapb : xs.length * sz ≤ cap * sz := Nat.mul_le_mul_right _ hnc
      have hst := store_R P (a.eval x).cells.toList 0 hh (o := i * sz + j) (by simp at hvl ⊢; omega) (leaves_vals h5)
      simp only [Nat.add_zero] at hst
      rw [hvl] at hst
      have hob : (ρ b).ownBlock = some g := by rw [h3]; rfl
      refine ⟨w.setRow g (cur.toList.take (i * sz + j) ++ (a.eval x).cells.toList ++ cur.toList.drop (i * sz + j + n)).toArray, ?_, ⟨rfl, rfl, rfl, by simp [World.setRow], fun k hk hne => setRow_other w g k _ (fun e => hne (by rw [hob, e]))⟩, fun hz => ?_⟩
      · unfold execOp
        simp only [hop]
        have hvs : (a.eval x).cells.size = n := by simpa using hvl
        simp [Instr.storeAt, Instr.sureAddr, h4, storeVar, size_run hT, hvs, hst]
      · -- the row behind the store
        have hlx : xs'.length = xs.length := by rw [← hxs]; simp
        have hin : inner.length = xs.length * sz := hown.1
        let cs := (a.eval x).cells.toList
        have hcsl : cs.length = n := hvl
        refine ⟨h0, inner.take (i * sz + j) ++ cs ++ inner.drop (i * sz + j + n), ⟨?_, .inr ⟨g, cap, _, by rw [h3, hlx]; congr 1, Nat.zero_le _, setRow_R hh hcsl (by rw [hcs]; omega), by rw [hlx]; exact hnc, hcm, ?_, ?_⟩⟩, fun q z hz' => ?_, fun q z k lv hz' hk => ?_⟩
        · simp only [List.length_append, List.length_take, List.length_drop]
          rw [hlx, hcsl]
          omega
        · simp only [List.size_toArray, List.length_append, List.length_take, List.length_drop, Array.length_toList]
          show min _ _ + cs.length + _ = _
          rw [hcsl]; omega
        · -- what is taken of the row
          rw [hlx]
          show ((cur.toList.take (i * sz + j) ++ cs ++ cur.toList.drop (i * sz + j + n))).take (xs.length * sz) = _
          apply List.ext_getElem?
          intro q
          rw [List.getElem?_take]
          have hcl : cur.toList.length = cap * sz := by simpa using hcs
          have hin' : ∀ q, q < xs.length * sz → inner[q]? = cur.toList[q]? := fun q hq => by rw [← htk, List.getElem?_take, if_pos hq]
          by_cases hq : q < xs.length * sz
          · rw [if_pos hq, midget (by omega) hcsl, midget (by omega) hcsl, hin' q hq]
          · rw [if_neg hq, List.getElem?_eq_none]
            simp only [List.length_append, List.length_take, List.length_drop]
            rw [hcsl]; omega
        · rw [← hxs] at hz'
          by_cases hqi : i = q
          · subst hqi
            rw [List.getElem?_set_self hi] at hz'
            injection hz' with hz'
            subst hz'
            rw [hv']
            simp
            omega
          · rw [List.getElem?_set_ne hqi] at hz'
            exact hl q z hz'
        · have e9 : (inner.take (i * sz + j)).length = i * sz + j := by simp; omega
          have zmove : ∀ {x : AV} {u : Value}, RepV Zn w x u → RepV Zn (w.setRow g (cur.toList.take (i * sz + j) ++ cs ++ cur.toList.drop (i * sz + j + n)).toArray) x u := fun h => h.move hz (fun _ h => h)
          rw [← hxs] at hz'
          by_cases hqi : i = q
          · subst hqi
            rw [List.getElem?_set_self hi] at hz'
            injection hz' with hz'
            subst hz'
            rw [hv', midget hle' hn'] at hk
            rw [midget (by omega) hcsl]
            by_cases h : k < j
            · rw [if_pos h] at hk
              rw [if_pos (by omega)]
              obtain ⟨u, hu, hrep⟩ := hr i v k lv hv hk
              exact ⟨u, hu, zmove hrep⟩
            · rw [if_neg h] at hk
              rw [if_neg (by omega)]
              by_cases h' : k < j + n
              · rw [if_pos h'] at hk
                rw [if_pos (by omega)]
                obtain ⟨u, hu, hrep⟩ := h5.get hk
                refine ⟨u, ?_, zmove (plain_rep (List.all_eq_true.1 hpl lv (List.mem_of_getElem? hk)) hrep)⟩
                rw [show i * sz + k - (i * sz + j) = k - j by omega]
                exact hu
              · rw [if_neg h'] at hk
                rw [if_neg (by omega)]
                obtain ⟨u, hu, hrep⟩ := hr i v k lv hv hk
                exact ⟨u, hu, zmove hrep⟩
          · have hne := hqi
            rw [List.getElem?_set_ne hqi] at hz'
            obtain ⟨u, hu, hrep⟩ := hr q z k lv hz' hk
            refine ⟨u, ?_, zmove hrep⟩
            have hk' : k < sz := by have := hl q z hz'; have := (List.getElem?_eq_some_iff.1 hk).1; omega
            rw [midget (by omega) hcsl]
            rcases Nat.lt_or_gt_of_ne hne with hlt | hgt
            · have h6 : (i + 1) * sz ≤ q * sz := Nat.mul_le_mul_right _ hlt
              rw [Nat.succ_mul] at h6
              rw [if_neg (by omega), if_neg (by omega)]
              exact hu
            · have h6 : (q + 1) * sz ≤ i * sz := Nat.mul_le_mul_right _ hgt
              rw [Nat.succ_mul] at h6
              rw [if_pos (by omega)]
              exact hu
end
end Go.Proofs.YtahmbcgolnplgaaDoorA
