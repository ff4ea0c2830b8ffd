/- The abstract machine, sixth part: reading, and what a call gives back. No claim lies here. -/
import Derived.Test.YtahmbcgolnplgaaDoorA5
import Derived.Laws.Entries
import Derived.Laws.Cells
set_option linter.unusedVariables false
set_option linter.unusedSimpArgs false
namespace Go.Proofs.YtahmbcgolnplgaaDoorA
open Go

/-! Types. -/
def scalarT (P : Program) (T : TypeId) : Bool := match P.underlying T with
  | some (.struct _) | some (.array _ _) => false
  | some _ => true
  | none => false
def aggT (P : Program) (T n : Nat) : Bool := (match P.underlying T with
  | some (.struct _) | some (.array _ _) => true
  | _ => false) && (match P.info? T with
  | some i => Nat.beq i.size n
  | none => false)
def sizeIs (P : Program) (T n : Nat) : Bool := match P.info? T with
  | some i => Nat.beq i.size n
  | none => false
def fieldT (P : Program) (T f off : Nat) : Bool := match P.underlying T with
  | some (.struct fs) => (match fs[f]? with
    | some fd => Nat.beq fd.offset off && (match P.info? fd.type with
      | some i => Nat.blt 0 i.size
      | none => false)
    | none => false)
  | _ => false
def sliceT (P : Program) (T e sz : Nat) : Bool := match P.underlying T with
  | some (.slice e') => Nat.beq e' e && sizeIs P e sz
  | _ => false
def arrT (P : Program) (T n sz : Nat) : Bool := match P.underlying T with
  | some (.array n' e) => Nat.beq n' n && sizeIs P e sz
  | _ => false
theorem scalar_run {P : Program} {T : TypeId} (h : scalarT P T = true) (w : World) : (isAgg T).run P w = .ok false w := by
  unfold scalarT at h
  cases hu : P.underlying T with
  | none => rw [hu] at h; cases h
  | some d => cases d <;> rw [hu] at h <;> first | (cases h; done) | simp [isAgg, run_underlying hu]
theorem agg_run {P : Program} {T n : Nat} (h : aggT P T n = true) (w : World) : (isAgg T).run P w = .ok true w ∧ (sizeOf T).run P w = .ok n w := by
  unfold aggT at h
  rw [Bool.and_eq_true] at h
  obtain ⟨h1, h2⟩ := h
  constructor
  · cases hu : P.underlying T with
    | none => rw [hu] at h1; cases h1
    | some d => cases d <;> rw [hu] at h1 <;> first | (cases h1; done) | simp [isAgg, run_underlying hu]
  · cases hi : P.info? T with
    | none => rw [hi] at h2; cases h2
    | some i => rw [hi] at h2; simp [sizeOf, typeInfo, hi, beq_t h2]
theorem size_run {P : Program} {T n : Nat} (h : sizeIs P T n = true) (w : World) : (sizeOf T).run P w = .ok n w := by
  unfold sizeIs at h
  cases hi : P.info? T with
  | none => rw [hi] at h; cases h
  | some i => rw [hi] at h; simp [sizeOf, typeInfo, hi, beq_t h]

/-- A value out of immutable memory, with the zone's flag. -/
def imm (z : Fl) : AV → AV
  | .sl _ sz xs => .sl z sz xs
  | x => x
section
variable {P : Program} {E : Env} {nt : Nat} {ρ : Nat → Value} {Zn : Nat → Prop} {tm : Nat → AV} {bk : Nat → Blk} {a : Act} {w : World} {s : S}
theorem repC0_imm {z : Fl} {x : AV} {u : Value} (h : RepV (fz E Zn z) w x u) : RepC0 (fz E Zn) w ρ bk (imm z x) u := by
  cases h with
  | lit h => exact ⟨rfl, h⟩
  | junk h => exact h
  | sl ad f hc hm hz hA hl hcell hrep => exact .sl ad f hc hm hz hA hl hcell hrep
/-- What is read through a pointer. -/
inductive Ld (P : Program) (s : S) (T : Nat) : AV → AV → List Nat → Prop
  | box {b o t : Nat} {cells : List AV} {x : AV} : gB s.bk b = .box t cells → cells[o]? = some x → scalarT P T = true → Ld P s T (.box b o) x [b]
  | boxA {b o t n : Nat} {cells l : List AV} : gB s.bk b = .box t cells → (cells.drop o).take n = l → l.length = n → aggT P T n = true → Ld P s T (.box b o) (.agg l) [b]
  | rp {z : Fl} {x y : AV} {j : Nat} : x.leaves[j]? = some y → scalarT P T = true → Ld P s T (.rp z x j) (imm z y) []
  | rpA {z : Fl} {x : AV} {j n : Nat} {l : List AV} : (x.leaves.drop j).take n = l → l.length = n → aggT P T n = true → Ld P s T (.rp z x j) (.agg (l.map (imm z))) []
  | el {b e sz i j : Nat} {xs : List AV} {x y : AV} : gB s.bk b = .row e sz xs → xs[i]? = some x → x.leaves[j]? = some y → scalarT P T = true → Ld P s T (.elp b sz i j) (imm .n y) [b]
  | elA {b e sz i j n : Nat} {xs l : List AV} {x : AV} : gB s.bk b = .row e sz xs → xs[i]? = some x → (x.leaves.drop j).take n = l → l.length = n → aggT P T n = true → Ld P s T (.elp b sz i j) (.agg (l.map (imm .n))) [b]
theorem run_loadAgg {T n : Nat} {ad : Addr} {cs : List Value} (ht : aggT P T n = true) (hn : cs.length = n) (hc : ∀ j v, cs[j]? = some v → w.cell? (ad.add j) = some v) : (loadVar T ad).run P w = .ok (.agg cs.toArray) w := by
  obtain ⟨h1, h2⟩ := agg_run ht w
  have h3 := run_loadCells_list (P := P) w ad cs hc
  rw [hn] at h3
  simp [loadVar, h1, h2, h3]
theorem run_loadOne {T : Nat} {ad : Addr} {v : Value} (ht : scalarT P T = true) (hc : w.cell? ad = some v) : (loadVar T ad).run P w = .ok v w := by
  simp [loadVar, scalar_run ht w, hc]
theorem box_cell {b g t : Nat} {cells : List AV} {cs : List Value} (hg : w.heap[g]? = some (.cells cs.toArray t (0, 0))) (o : Nat) : w.cell? ⟨g, o, none⟩ = cs[o]? := by
  simp [World.cell?, hg]
/-- An element's cells, where it lies in a row of the call's own. -/
theorem row_cells {e sz : Nat} {v : Value} {xs : List AV} (h : RowOk Zn w e sz v xs) {g n c i : Nat} (hv : v = .slice (some ⟨g, 0, none⟩) n c) {x : AV} (hx : xs[i]? = some x) : x.leaves.length = sz ∧ ∀ j y, x.leaves[j]? = some y → ∃ u, w.cell? ⟨g, i * sz + j, none⟩ = some u ∧ RepV Zn w y u := by
  obtain ⟨h0, inner, ho, hl, hr⟩ := h
  refine ⟨hl i x hx, fun j y hy => ?_⟩
  obtain ⟨u, hu, hrep⟩ := hr i x j y hx hy
  refine ⟨u, ?_, hrep⟩
  have := ho.cells (g := g) (by rw [hv]; rfl) (i * sz + j) u hu
  rwa [add_lit] at this
theorem Ld.ok {T : Nat} {p x : AV} {tl : List Nat} (h : Ld P s T p x tl) (hs : St E nt ρ Zn tm bk a w) (hb : ∀ b ∈ tl, bk b = gB s.bk b) {u : Value} (hu : RepT (fz E Zn) w ρ bk p u) :
    ∃ ad v, u = .pointer (some ad) ∧ (loadVar T ad).run P w = .ok v w ∧ RepT (fz E Zn) w ρ bk x v := by
  cases h with
  | @box b o t cells x h1 h2 ht =>
    obtain ⟨hf, g, hg, rfl⟩ := rep_C00 hu rfl
    have hblk := hs.blk b
    rw [hb b (List.mem_singleton.2 rfl), h1] at hblk
    obtain ⟨g', cs, e1, e2, e3⟩ := hblk
    rw [hg] at e1
    injection e1 with e1; injection e1 with e1; injection e1 with e1
    subst e1
    obtain ⟨v, hv, hr⟩ := e3.get h2
    exact ⟨_, v, rfl, run_loadOne ht (by rw [box_cell (b := b) (cells := cells) e2]; exact hv), rep_of_C hr⟩
  | @boxA b o t n cells l h1 h2 hn ht =>
    obtain ⟨hf, g, hg, rfl⟩ := rep_C00 hu rfl
    have hblk := hs.blk b
    rw [hb b (List.mem_singleton.2 rfl), h1] at hblk
    obtain ⟨g', cs, e1, e2, e3⟩ := hblk
    rw [hg] at e1
    injection e1 with e1; injection e1 with e1; injection e1 with e1
    subst e1
    have hfa := (e3.drop o).take n
    rw [h2] at hfa
    refine ⟨_, .agg ((cs.drop o).take n).toArray, rfl, run_loadAgg ht (by rw [← hfa.1, hn]) (fun j v hv => ?_), .inr (.inr (.inl (.inr ⟨l, _, rfl, rfl, hfa⟩)))⟩
    rw [add_lit', box_cell (b := b) (cells := cells) e2]
    rw [List.getElem?_take] at hv
    split at hv
    · rwa [List.getElem?_drop] at hv
    · cases hv
  | @rp z x y j h1 ht =>
    obtain ⟨ad, f, rfl, hz, hc⟩ := rep_C00 hu rfl
    obtain ⟨h2, h3⟩ := hc j y h1
    exact ⟨_, f j, rfl, run_loadOne ht h2, rep_of_C (.inl (repC0_imm h3))⟩
  | @rpA z x j n l h1 hn ht =>
    obtain ⟨ad, f, rfl, hz, hc⟩ := rep_C00 hu rfl
    have get : ∀ i y, l[i]? = some y → x.leaves[j + i]? = some y := by
      intro i y hy
      rw [← h1, List.getElem?_take] at hy
      split at hy
      · rwa [List.getElem?_drop] at hy
      · cases hy
    refine ⟨_, .agg ((List.range n).map fun i => f (j + i)).toArray, rfl, run_loadAgg ht (by simp) (fun i v hv => ?_), .inr (.inr (.inl (.inr ⟨_, _, rfl, rfl, ?_⟩)))⟩
    · rw [List.getElem?_map] at hv
      obtain ⟨i', hi', rfl⟩ := Option.map_eq_some_iff.1 hv
      have hi := (List.getElem?_eq_some_iff.1 hi').1
      rw [List.getElem?_range (by simpa using hi)] at hi'
      injection hi' with hi'
      subst hi'
      have hi2 : i < l.length := by simpa [hn] using hi
      rw [add_add]
      exact (hc (j + i) _ (get i _ (List.getElem?_eq_getElem hi2))).1
    · refine Fa.map_left.2 ⟨by simp [hn], fun i y v hy hv => ?_⟩
      rw [List.getElem?_map] at hv
      obtain ⟨i', hi', rfl⟩ := Option.map_eq_some_iff.1 hv
      have hi := (List.getElem?_eq_some_iff.1 hi').1
      rw [List.getElem?_range (by simpa using hi)] at hi'
      injection hi' with hi'
      subst hi'
      exact .inl (repC0_imm (hc (j + i) _ (get i _ hy)).2)
  | @el b e sz i j xs x y h1 h2 h3 ht =>
    obtain ⟨hf, g, n, c, hg, rfl⟩ := rep_C00 hu rfl
    have hblk := hs.blk b
    rw [hb b (List.mem_singleton.2 rfl), h1] at hblk
    obtain ⟨hl, hc⟩ := row_cells hblk hg h2
    obtain ⟨v, hv, hr⟩ := hc j y h3
    exact ⟨_, v, rfl, run_loadOne ht hv, rep_of_C (.inl (repC0_imm (z := .n) hr))⟩
  | @elA b e sz i j n xs l x h1 h2 h3 hn ht =>
    obtain ⟨hf, g, n', c, hg, rfl⟩ := rep_C00 hu rfl
    have hblk := hs.blk b
    rw [hb b (List.mem_singleton.2 rfl), h1] at hblk
    obtain ⟨hl, hc⟩ := row_cells hblk hg h2
    have get : ∀ k y, l[k]? = some y → x.leaves[j + k]? = some y := by
      intro k y hy
      rw [← h3, List.getElem?_take] at hy
      split at hy
      · rwa [List.getElem?_drop] at hy
      · cases hy
    have : ∃ cs : List Value, cs.length = n ∧ ∀ k v, cs[k]? = some v → w.cell? ⟨g, i * sz + (j + k), none⟩ = some v ∧ ∃ y, l[k]? = some y ∧ RepV Zn w y v := by
      refine ⟨(List.range n).map fun k => (w.cell? ⟨g, i * sz + (j + k), none⟩).getD undef, by simp, fun k v hv => ?_⟩
      rw [List.getElem?_map] at hv
      obtain ⟨k', hk', rfl⟩ := Option.map_eq_some_iff.1 hv
      have hk := (List.getElem?_eq_some_iff.1 hk').1
      rw [List.getElem?_range (by simpa using hk)] at hk'
      injection hk' with hk'
      subst hk'
      have hk2 : k < l.length := by simpa [hn] using hk
      obtain ⟨v, hv, hr⟩ := hc (j + k) _ (get k _ (List.getElem?_eq_getElem hk2))
      rw [hv]
      exact ⟨rfl, _, List.getElem?_eq_getElem hk2, hr⟩
    obtain ⟨cs, hcl, hcs⟩ := this
    refine ⟨_, .agg cs.toArray, rfl, run_loadAgg ht hcl (fun k v hv => ?_), .inr (.inr (.inl (.inr ⟨_, _, rfl, rfl, ?_⟩)))⟩
    · rw [add_lit', Nat.add_assoc]; exact (hcs k v hv).1
    · refine Fa.map_left.2 ⟨by rw [hn, hcl], fun k y v hy hv => ?_⟩
      obtain ⟨_, y', hy', hr⟩ := hcs k v hv
      rw [hy] at hy'; injection hy' with hy'; subst hy'
      exact .inl (repC0_imm (z := .n) hr)

/-! A function's results. -/
inductive Rs (P : Program) (s : S) : List ResultVar → List AV → Prop
  | nil : Rs P s [] []
  | tmp {t : Tmp} {rs : List ResultVar} {l : List AV} : Rs P s rs l → Rs P s (.tmp t :: rs) (gT s.tm t :: l)
  | cell {t T : Nat} {x : AV} {tl : List Nat} {rs : List ResultVar} {l : List AV} : Ld P s T (gT s.tm t) x tl → Rs P s rs l → Rs P s (.cell t T :: rs) (x :: l)
theorem Rs.ok {rs : List ResultVar} {l : List AV} (h : Rs P s rs l) (hs : St E nt ρ Zn (gT s.tm) (gB s.bk) a w) :
    ∃ vs : List Value, (rs.mapM (m := Sem) fun | .tmp t => pure (a.tmps.getD t undef) | .cell p t => do loadVar t (← asAddr (a.tmps.getD p undef))).run P w = .ok vs w ∧ Fa (RepT (fz E Zn) w ρ (gB s.bk)) l vs := by
  induction h with
  | nil => exact ⟨[], rfl, Fa.nil⟩
  | @tmp t rs l h ih =>
    obtain ⟨vs, h1, h2⟩ := ih
    refine ⟨_ :: vs, ?_, Fa.cons (hs.tmp t) h2⟩
    rw [List.mapM_cons, Sem.run_bind]
    show (Result.ok (a.tmps.getD t undef) w).andThen _ = _
    rw [Result.andThen_ok, Sem.run_bind, h1]
    rfl
  | @cell t T x tl rs l hl h ih =>
    obtain ⟨vs, h1, h2⟩ := ih
    obtain ⟨ad, v, e1, e2, e3⟩ := hl.ok hs (fun _ _ => rfl) (hs.tmp t)
    have e1' : a.tmps.getD t undef = .pointer (some ad) := e1
    refine ⟨v :: vs, ?_, Fa.cons e3 h2⟩
    have e4 : (do loadVar T (← asAddr (a.tmps.getD t undef)) : Sem Value).run P w = .ok v w := by
      rw [e1', Sem.run_bind]
      exact e2
    rw [List.mapM_cons, Sem.run_bind]
    show (Sem.run P (do loadVar T (← asAddr (a.tmps.getD t undef)) : Sem Value) w).andThen _ = _
    rw [e4, Result.andThen_ok, Sem.run_bind, h1]
    rfl
/-- One result, or several as a tuple. -/
inductive Rv : List AV → AV → Prop
  | one (x : AV) : Rv [x] x
  | none : Rv [] (.tup [])
  | many (x y : AV) (l : List AV) : Rv (x :: y :: l) (.tup (x :: y :: l))
def notT : AV → Bool
  | .junk | .tup _ => false
  | .lit (.agg _) | .lit (.tuple _) => false
  | _ => true
theorem rep_A_of {x : AV} {u : Value} (h : RepT (fz E Zn) w ρ bk x u) (hx : notT x = true) : RepA (fz E Zn) w ρ bk x u := by
  rcases h with rfl | rfl | h | ⟨l, cs, rfl, _⟩
  · cases hx
  · refine .inl (.inl ⟨rfl, ?_⟩)
    cases u <;> first | rfl | cases hx
  · exact h
  · cases hx
theorem Rv.ok {l : List AV} {x : AV} (h : Rv l x) (hl : l.all notT = true) {vs : List Value} (hv : Fa (RepT (fz E Zn) w ρ bk) l vs) : RepT (fz E Zn) w ρ bk x (if h : vs.toArray.size = 1 then vs.toArray[0] else .tuple vs.toArray) := by
  have key : ∀ {m : List AV} {us : List Value}, m.all notT = true → Fa (RepT (fz E Zn) w ρ bk) m us → Fa (RepA (fz E Zn) w ρ bk) m us := by
    intro m us hm h
    exact ⟨h.1, fun i a b ha hb => rep_A_of (h.2 i a b ha hb) (List.all_eq_true.1 hm a (List.mem_of_getElem? ha))⟩
  cases h with
  | one x =>
    obtain ⟨v, vs', rfl, h1, h2⟩ := hv.uncons
    have := h2.unnil
    subst this
    exact h1
  | none =>
    have := hv.unnil
    subst this
    exact .inr (.inr (.inr ⟨[], [], rfl, rfl, Fa.nil⟩))
  | many x y l =>
    have h1 := hv.1
    have : ¬ (vs.toArray.size = 1) := by simp at h1 ⊢; omega
    rw [dif_neg this]
    exact .inr (.inr (.inr ⟨_, vs, rfl, rfl, key hl hv⟩))
end

section
variable {P : Program} {E : Env} {nt : Nat} {s : S}
theorem run_results {fn : Func} {rs : List ResultVar} {tmps : Array Value} {w : World} {vs : List Value} (hfn : fn.results = rs.toArray) (h : (rs.mapM (m := Sem) fun | .tmp t => pure (tmps.getD t undef) | .cell p t => do loadVar t (← asAddr (tmps.getD p undef))).run P w = .ok vs w) :
    (results fn tmps).run P w = .ok (if h : vs.toArray.size = 1 then vs.toArray[0] else .tuple vs.toArray) w := by
  unfold results
  rw [hfn]
  rw [Sem.run_bind, List.mapM_toArray, Sem.run_map]
  exact (congrArg (fun r => Result.andThen (Result.andThen r _) _) h).trans rfl
/-- A function's end: its results, and what is left of its blocks under the contract's numbers. -/
theorem ac_end {fn : Func} {post : List (Nat × Blk)} {res : AV} {ni : Nat} (hE : ∀ b v, E.ρ0 b = some v → b < ni) {rs : List ResultVar} {l : List AV} {x : AV} (hres : fn.results = rs.toArray) (hr : Rs P s rs l) (hv : Rv l x) (hl : l.all notT = true)
    (m : List (Nat × Nat)) (far : Nat) (hx : x = ren4 (lkN far m) res) (hB : SameB s (lkN far m) post)
    (hfar : gB s.bk far = .fresh := by rfl) (hdom : m.map (·.1) = post.map (·.1) := by rfl) (hnd : nodupN (m.map (·.2)) = true := by rfl) (hnf : nofresh post = true := by rfl) (hid : idN ni m = true := by rfl) (hndk : nodupN (m.map (·.1)) = true := by rfl) :
    ACont E nt s (bodyPost P fn (Left E post res) .ret) := by
  intro a w ⟨ρ, Zn, hs⟩
  obtain ⟨vs, h1, h2⟩ := hr.ok hs
  refine ⟨hs.defers, _, run_results hres h1, ?_⟩
  have hw := St.weak (s' := ⟨[], post⟩) hs hfar hdom hnd trivial hB hnf (fun b v hv => idN_get hid b (hE b v hv)) hndk
  refine ⟨_, _, Zn, rfl, hw.hp, ?_⟩
  have h3 := Rv.ok hv hl h2
  rw [hx] at h3
  refine RepT.ren (fun b hb => ?_) h3
  rcases lkN_mem (far := far) (m := m) (b := b) with ⟨e, _⟩ | e
  · rw [e] at hb; exact absurd hfar hb
  · exact nofresh_get hnf b (by rw [← hdom]; exact List.mem_map.2 ⟨_, e, rfl⟩)
theorem ac_end_n {fn : Func} {post : List (Nat × Blk)} {res : AV} (h : ACont E nt s (bodyPost P fn (Left E post res) .ret)) : ACont E nt s (bodyPost P fn (Left E post res) .normal) := h
end
end Go.Proofs.YtahmbcgolnplgaaDoorA
