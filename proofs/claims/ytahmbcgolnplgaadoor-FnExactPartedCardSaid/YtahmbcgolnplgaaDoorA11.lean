/- The abstract machine, eleventh part: literals, stores, appends. No claim lies here. -/
import Derived.Test.YtahmbcgolnplgaaDoorA10
set_option linter.unusedVariables false
set_option linter.unusedSimpArgs false
namespace Go.Proofs.YtahmbcgolnplgaaDoorA
open Go

/-- Cells laid into a list, from a place on. -/
def putL : List AV → Nat → List AV → List AV
  | cs, _, [] => cs
  | cs, o, x :: xs => putL (cs.set o x) (o + 1) xs
def putV : List Value → Nat → List Value → List Value
  | cs, _, [] => cs
  | cs, o, x :: xs => putV (cs.set o x) (o + 1) xs
theorem fa_putL {R : AV → Value → Prop} : ∀ {xs : List AV} {vs : List Value} {l : List AV} {m : List Value} {o : Nat}, Fa R l m → Fa R xs vs → Fa R (putL l o xs) (putV m o vs)
  | [], vs, l, m, o, h, hx => by have := hx.unnil; subst this; exact h
  | x :: xs, vs, l, m, o, h, hx => by
    obtain ⟨v, vs', rfl, h1, h2⟩ := hx.uncons
    show Fa R (putL (l.set o x) (o + 1) xs) (putV (m.set o v) (o + 1) vs')
    exact fa_putL (h.set o h1) h2
theorem putV_len : ∀ (vs : List Value) (m : List Value) (o : Nat), (putV m o vs).length = m.length
  | [], _, _ => rfl
  | v :: vs, m, o => by show (putV (m.set o v) (o + 1) vs).length = _; rw [putV_len vs]; simp
theorem putV_fold (off : Nat) : ∀ (vs : List Value) (k : Nat) (m : Array Value), (((vs.zipIdx k).foldl (fun cs p => cs.setIfInBounds (off + p.2) p.1) m).toList) = putV m.toList (off + k) vs
  | [], k, m => rfl
  | v :: vs, k, m => by
    rw [List.zipIdx_cons, List.foldl_cons, putV_fold off vs (k + 1)]
    show putV (m.setIfInBounds (off + k) v).toList (off + (k + 1)) vs = putV (m.toList.set (off + k) v) (off + k + 1) vs
    rw [Array.toList_setIfInBounds, Nat.add_assoc]
section
variable {P : Program} {E : Env} {nt : Nat} {s : S} {o : Oper} {d : Nat}
/-- A struct literal's cells. -/
def fillS (s : S) (pl : List (Nat × Nat)) : List AV → List (Nat × Operand) → Option (List AV)
  | cells, [] => some cells
  | cells, (i, x) :: r => match pl[i]? with
    | some (off, n) => (match Nat.beq (opd s x).leaves.length n, Nat.ble (off + n) cells.length, notT (opd s x) with
      | true, true, true => fillS s pl (putL cells off (opd s x).leaves) r
      | _, _, _ => none)
    | none => none
theorem fill_ok {Zf : Fl → Nat → Prop} {w : World} {ρ : Nat → Value} {bk : Nat → Blk} {pl : List (Nat × Nat)} {place : Nat → Option (Nat × Nat)} (hp : ∀ i q, pl[i]? = some q → place i = some q) {ev : Operand → Value} : ∀ {parts : List (Nat × Operand)} {cells l : List AV} {m : Array Value}, (∀ p ∈ parts, notT (opd s p.2) = true → Fa (RepC Zf w ρ bk) (opd s p.2).leaves (ev p.2).cells.toList) → Fa (RepC Zf w ρ bk) cells m.toList → fillS s pl cells parts = some l →
    ∃ m', Instr.fill place m (parts.map fun p => (p.1, ev p.2)) = some m' ∧ Fa (RepC Zf w ρ bk) l m'.toList
  | [], cells, l, m, _, h, hf => by
    have hf' : some cells = some l := hf
    injection hf' with hf'
    subst hf'
    exact ⟨m, rfl, h⟩
  | (i, x) :: r, cells, l, m, hr, h, hf => by
    have hf' : (match pl[i]? with
      | some (off, n) => (match Nat.beq (opd s x).leaves.length n, Nat.ble (off + n) cells.length, notT (opd s x) with
        | true, true, true => fillS s pl (putL cells off (opd s x).leaves) r
        | _, _, _ => none)
      | none => none) = some l := hf
    cases hpl : pl[i]? with
    | none => rw [hpl] at hf'; cases hf'
    | some q =>
      obtain ⟨off, n⟩ := q
      rw [hpl] at hf'
      simp only at hf'
      cases hb : Nat.beq (opd s x).leaves.length n with
      | false => rw [hb] at hf'; cases hf'
      | true =>
        cases hc : Nat.ble (off + n) cells.length with
        | false => rw [hb, hc] at hf'; cases hf'
        | true =>
          cases hn : notT (opd s x) with
          | false => rw [hb, hc, hn] at hf'; cases hf'
          | true =>
            rw [hb, hc, hn] at hf'
            simp only at hf'
            have hx := hr (i, x) List.mem_cons_self hn
            have hlen : (ev x).cells.size = n := by
              have := hx.1
              have h2 := beq_t hb
              simp at this
              omega
            have hle : off + n ≤ m.size := by
              have := h.1
              have h2 := Nat.le_of_ble_eq_true hc
              simp at this
              omega
            have h2 : Fa (RepC Zf w ρ bk) (putL cells off (opd s x).leaves) ((((ev x).cells.zipIdx.foldl (fun cs p => cs.setIfInBounds (off + p.2) p.1) m)).toList) := by
              have e : ((ev x).cells.zipIdx.foldl (fun cs p => cs.setIfInBounds (off + p.2) p.1) m).toList = putV m.toList off (ev x).cells.toList := by
                have := putV_fold off (ev x).cells.toList 0 m
                rw [Nat.add_zero] at this
                rw [← this, ← Array.foldl_toList, Array.toList_zipIdx]
              rw [e]
              exact fa_putL h hx
            obtain ⟨m', h3, h4⟩ := fill_ok hp (fun p hp' => hr p (List.mem_cons_of_mem _ hp')) h2 hf'
            refine ⟨m', ?_, h4⟩
            rw [List.map_cons]
            unfold Instr.fill
            rw [hp i _ hpl]
            simp only
            rw [if_neg (by simp [hlen]; omega)]
            exact h3
def placesT (P : Program) (T : TypeId) (pl : List (Nat × Nat)) : Bool := match P.underlying T with
  | some (.struct fs) => fs.toList.map (fun f => (f.offset, (P.info? f.type).map (·.size))) == pl.map (fun p => (p.1, some p.2))
  | _ => false
theorem places_run {T : TypeId} {pl : List (Nat × Nat)} (h : placesT P T pl = true) (w : World) : ∃ fs, P.underlying T = some (.struct fs) ∧ (fs.mapM (m := Sem) fun f => do pure (f.offset, ← sizeOf f.type)).run P w = .ok pl.toArray w := by
  unfold placesT at h
  cases hu : P.underlying T with
  | none => rw [hu] at h; cases h
  | some t =>
    cases t with
    | struct fs =>
      rw [hu] at h
      simp only [beq_iff_eq] at h
      refine ⟨fs, rfl, ?_⟩
      have key : ∀ (l : List Field) (pl : List (Nat × Nat)), l.map (fun f => (f.offset, (P.info? f.type).map (·.size))) = pl.map (fun p => (p.1, some p.2)) → (l.mapM (m := Sem) fun f => do pure (f.offset, ← sizeOf f.type)).run P w = .ok pl w := by
        intro l
        induction l with
        | nil => intro pl h; cases pl <;> first | rfl | cases h
        | cons f l ih =>
          intro pl h
          cases pl with
          | nil => cases h
          | cons p pl =>
            simp only [List.map_cons, List.cons.injEq, Prod.mk.injEq] at h
            obtain ⟨⟨h1, h2⟩, h3⟩ := h
            obtain ⟨i, hi, hs⟩ := Option.map_eq_some_iff.1 h2
            have e1 : (do pure (f.offset, ← sizeOf f.type) : Sem (Nat × Nat)).run P w = .ok (f.offset, i.size) w := by simp [sizeOf, typeInfo, hi]
            rw [List.mapM_cons, Sem.run_bind, e1, Result.andThen_ok, Sem.run_bind, ih pl h3, Result.andThen_ok, Sem.run_pure]
            have : (f.offset, i.size) = p := Prod.ext h1 hs
            rw [this]
      have e : fs = fs.toList.toArray := by simp
      rw [e, List.mapM_toArray, Sem.run_map, key _ _ h]
      rfl
    | _ => rw [hu] at h; cases h
theorem r_build {T : TypeId} {parts : Array (Nat × Operand)} {zs : List Value} {l : List AV} (pl : List (Nat × Nat)) (hop : o.op = .build T parts) (hd : o.dst = some d) (hlt : Nat.blt d nt = true) (hz : zeroOf P T = some zs) (h1 : zs.all (·.oneCell') = true) (hp : placesT P T pl = true) (hl : fillS s pl (zs.map .lit) parts.toList = some l) : Okv P E nt o s ⟨some d, .agg l, []⟩ (parts.toList.flatMap fun p => lkO p.2) [] :=
  okv_val hd hlt fun tm bk ρ Zn a w hag hs => by
    obtain ⟨fs, hu, hpr⟩ := places_run hp w
    obtain ⟨z, h2, h3⟩ := zero_run hz w
    obtain ⟨m', h4, h5⟩ := fill_ok (s := s) (Zf := fz E Zn) (w := w) (ρ := ρ) (bk := bk) (pl := pl) (place := fun i => pl.toArray[i]?) (fun i q h => by simpa using h) (ev := a.eval) (m := z.cells) (fun p hp' hn => by
      have := St.opd (s := s) hs p.2 (fun t ht => hag.1 t (List.mem_flatMap.2 ⟨p, hp', ht⟩))
      exact rep_A (rep_A_of this hn)) (by rw [h3]; exact fa_lits h1) hl
    refine ⟨.agg m', ?_, .inr (.inr (.inl (.inr ⟨l, m'.toList, rfl, by simp, h5⟩)))⟩
    unfold execOp
    simp only [hop]
    rw [Sem.run_bind]
    have hb : (Instr.build T (parts.map fun (i, x) => (i, a.eval x))).run P w = .ok (.agg m') w := by
      unfold Instr.build
      rw [Sem.run_bind]
      simp only [Sem.run_map, h2, Result.andThen_ok]
      rw [Sem.run_bind, run_underlying hu, Result.andThen_ok]
      simp only
      rw [Sem.run_bind, hpr, Result.andThen_ok]
      have : (parts.map fun (x : Nat × Operand) => (x.1, a.eval x.2)).toList = parts.toList.map fun p => (p.1, a.eval p.2) := by simp
      rw [this]
      rw [h4]
      rfl
    rw [hb]; rfl
end
end Go.Proofs.YtahmbcgolnplgaaDoorA
