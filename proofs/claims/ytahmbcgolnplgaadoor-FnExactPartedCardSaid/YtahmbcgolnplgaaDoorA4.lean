/- The abstract machine, fourth part: control, and what may be forgotten. No claim lies here. -/
import Derived.Test.YtahmbcgolnplgaaDoorA3
set_option linter.unusedVariables false
set_option linter.unusedSimpArgs false
namespace Go.Proofs.YtahmbcgolnplgaaDoorA
open Go

section
variable {P : Program} {ops : Array Oper} {Q : Exit → Act → World → Prop} {E : Env} {nt : Nat} {s s0 : S}
/-- A drawn number turns nothing. -/
theorem RelF.drew {tm : Nat → AV} {bk : Nat → Blk} {a : Act} {w w' : World} (h : RelF E nt tm bk a w) (h1 : w'.heap = w.heap) (h2 : w'.os = w.os) (h3 : w'.tape = w.tape) (h4 : w'.output = w.output) : RelF E nt tm bk a w' := by
  obtain ⟨ρ, Zn, h⟩ := h
  refine ⟨ρ, Zn, h.upd (fun _ => False) h2 h3 h4 (by rw [h1]; exact Nat.le_refl _) (fun _ _ _ => by rw [h1]) (fun _ _ => rfl) (fun _ _ => rfl) (fun _ h => h.elim) (fun _ h => h) (fun _ h => .inl h) (fun _ h => h.elim) (fun _ _ h => h.elim) (fun _ _ _ h => h.elim) rfl rfl (fun i => .inl ⟨rfl, rfl⟩) (fun _ h => h.elim)⟩

/-! A region's walk. -/
structure Wst (P : Program) (ops : Array Oper) (Q : Exit → Act → World → Prop) (E : Env) (nt : Nat) (s0 : S) (rs : List Rc) (s : S) : Prop where
  snd : ∀ i r, rs[i]? = some r → Snd P ops Q E nt i (sta s0 rs i) r.c r.lk r.tl
  fin : s = sta s0 rs rs.length
def Wk (P : Program) (ops : Array Oper) (Q : Exit → Act → World → Prop) (E : Env) (nt : Nat) (s0 : S) (todo : List Oper) (s : S) (ns : List Nm) (G : Prop) : Prop :=
  ∀ rs, Wst P ops Q E nt s0 rs s → rs.map Rc.nm = ns.reverse → ops.toList.drop rs.length = todo ∧ rs.length + todo.length = ops.size → G
def ACont (E : Env) (nt : Nat) (s : S) (K : Act → World → Prop) : Prop := ∀ a w, Rel E nt s a w → K a w
abbrev AW (E : Env) (nt : Nat) (P : Program) (c : Code) (Q : Exit → Act → World → Prop) (s : S) : Prop := ACont E nt s (Code.wp P c Q)
theorem wk_step {o : Oper} {todo : List Oper} {ns : List Nm} {G : Prop} (c : LA) (lk tl : List Nat) (h1 : ∀ i, ops[i]? = some o → Snd P ops Q E nt i s c lk tl)
    (h : Wk P ops Q E nt s0 todo (s.app c) (⟨c.dst, c.ups.map (·.1), lk, tl⟩ :: ns) G) : Wk P ops Q E nt s0 (o :: todo) s ns G := by
  intro rs hw hn ⟨ht, hlen⟩
  have ho : ops[rs.length]? = some o := by
    have := List.getElem?_drop (xs := ops.toList) (i := rs.length) (j := 0)
    rw [ht] at this
    simpa using this.symm
  have htk : ∀ i, i ≤ rs.length → sta s0 (rs ++ [⟨c, lk, tl⟩]) i = sta s0 rs i := by
    intro i hi
    unfold sta
    rw [List.take_append_of_le_length hi]
  refine h (rs ++ [⟨c, lk, tl⟩]) ⟨fun i r hr => ?_, ?_⟩ (by simp [hn, Rc.nm]) ⟨by rw [List.length_append, List.length_singleton, ← List.drop_drop, ht]; rfl, by simp at hlen ⊢; omega⟩
  · rcases Nat.lt_or_ge i rs.length with hi | hi
    · rw [List.getElem?_append_left hi] at hr
      rw [htk i (by omega)]
      exact hw.snd i r hr
    · have hi2 := (List.getElem?_eq_some_iff.1 hr).1
      have : i = rs.length := by simp at hi2; omega
      subst this
      rw [List.getElem?_append_right (Nat.le_refl _), Nat.sub_self, List.getElem?_cons_zero] at hr
      injection hr with hr
      subst hr
      rw [htk _ (Nat.le_refl _), ← hw.fin]
      exact h1 _ ho
  · rw [hw.fin]
    unfold sta
    rw [List.take_length, List.take_length, List.foldl_append]
    rfl
theorem wk_start {id : Nat} {l : List Oper} {draw : Bool} (h : Wk P l.toArray Q E nt s l s [] (AW E nt P (.region id l.toArray draw) Q s)) : AW E nt P (.region id l.toArray draw) Q s :=
  h [] ⟨fun i r h => by simp at h, rfl⟩ rfl ⟨rfl, by simp⟩
theorem wpOps_of : ∀ (rs : List Rc) (pre : List Rc) (s : S), (∀ i r, (pre ++ rs)[i]? = some r → Snd P ops Q E nt i (sta s0 (pre ++ rs) i) r.c r.lk r.tl) → s = sta s0 (pre ++ rs) (pre ++ rs).length → ACont E nt s (Q .normal) →
    ∀ a w, Rel E nt (sta s0 (pre ++ rs) pre.length) a w → wpOps P ops Q (List.range' pre.length rs.length) a w
  | [], pre, s, _, hs, hQ, a, w, h => by
    simp only [List.length_nil, List.range'_zero]
    rw [List.append_nil] at hs h
    exact hQ a w (hs ▸ h)
  | r :: rs, pre, s, hsnd, hs, hQ, a, w, h => by
    rw [List.length_cons, List.range'_succ, wpOps_cons]
    have hr : (pre ++ r :: rs)[pre.length]? = some r := by rw [List.getElem?_append_right (Nat.le_refl _), Nat.sub_self]; rfl
    refine hsnd _ r hr _ _ ⟨fun _ _ => rfl, fun _ _ => rfl⟩ _ a w h (fun a' w' h' => ?_)
    have e : pre ++ r :: rs = (pre ++ [r]) ++ rs := by simp
    have := wpOps_of rs (pre ++ [r]) s (e ▸ hsnd) (e ▸ hs) hQ a' w' (by
      rw [← e]
      have : sta s0 (pre ++ r :: rs) (pre ++ [r]).length = (sta s0 (pre ++ r :: rs) pre.length).app r.c := by
        unfold sta
        rw [e, List.take_left, List.foldl_append]
        rw [List.append_assoc, List.take_left]
        rfl
      rw [this]
      exact rel_app.2 h')
    simpa using this
theorem wk_end {id : Nat} {ns : List Nm} (h : ACont E nt s (Q .normal)) : Wk P ops Q E nt s0 [] s ns (AW E nt P (.region id ops false) Q s0) := by
  intro rs hw hn ⟨ht, hlen⟩ a w hr
  refine wp_region ?_
  have := wpOps_of (P := P) (ops := ops) (Q := Q) (E := E) (nt := nt) (s0 := s0) rs [] s hw.snd hw.fin h a w (by simpa [sta] using hr)
  rw [List.range_eq_range', ← (show rs.length = ops.size by simpa using hlen)]
  simpa using this
theorem wk_end_draw {id : Nat} {ns : List Nm} (hm : P.follows .mixedOrders = true) (hck : chk ops ns.reverse = true) (h : ACont E nt s (Q .normal)) : Wk P ops Q E nt s0 [] s ns (AW E nt P (.region id ops true) Q s0) := by
  intro rs hw hn ⟨ht, hlen⟩ a w hr
  refine wp_region_any hm ?_
  refine any_of (rs := rs) (s0 := s0) (E := E) (nt := nt) hw.snd (by rw [hn]; exact hck) (fun a w hh => h a w (hw.fin ▸ hh)) ops.size (Array.replicate ops.size false) (by simp) (by simp) (fun j hj => ?_) a _ ?_
  · rw [Array.getD_eq_getD_getElem?, Array.getElem?_replicate] at hj
    split at hj <;> simp at hj
  · have e : (fun j => (Array.replicate ops.size false).getD j false) = (fun j => decide (j < 0)) := by
      funext j
      rw [Array.getD_eq_getD_getElem?, Array.getElem?_replicate]
      split <;> simp
    rw [e, fT_none _ _ _ _ (Nat.le_refl _), fB_none _ _ _ _ (Nat.le_refl _)]
    exact RelF.drew hr rfl rfl rfl rfl

/-! From an operation's run to its step. -/
def Owp (P : Program) (Q : Exit → Act → World → Prop) (E : Env) (nt : Nat) (o : Oper) (s : S) (c : LA) (lk tl : List Nat) : Prop :=
  ∀ tm bk, Agree s lk tl tm bk → ∀ (K : Act → World → Prop) a w, RelF E nt tm bk a w → (∀ a' w', RelF E nt (putF tm c.dst c.out) (upF bk c.ups) a' w' → K a' w') → o.wp P a w K Q
theorem Okv.owp {o : Oper} {c : LA} {lk tl : List Nat} (h : Okv P E nt o s c lk tl) : Owp P Q E nt o s c lk tl := by
  intro tm bk hag K a w hr hK
  obtain ⟨n, v, w', h1, h2, h3⟩ := h tm bk hag a w hr
  unfold Oper.wp
  rw [h1]
  rcases h2 with rfl | ⟨rfl, rfl⟩
  · exact hK _ _ h3
  · exact hK _ _ h3
theorem snd_of {o : Oper} {i : Nat} (ho : ops[i]? = some o) (hg : o.guard = none) {c : LA} {lk tl : List Nat} (h : Owp P Q E nt o s c lk tl) : Snd P ops Q E nt i s c lk tl := by
  intro tm bk hag K a w hr hK
  unfold wpOp
  simp only [ho]
  rw [if_pos (by simp [Region.wanted, hg])]
  exact .inl (h tm bk hag K a w hr hK)
/-- A guarded operation whose guard is known to want it. -/
theorem snd_on {o og : Oper} {i g d : Nat} {want : Bool} (ho : ops[i]? = some o) (hg : o.guard = some (g, want)) (hog : ops[g]? = some og) (hd : og.dst = some d) (hlt : Nat.blt d nt = true) {t : Bool} (hb : gT s.tm d = .lit (.bool t)) (htw : t = want) {c : LA} {lk tl : List Nat} (h : Owp P Q E nt o s c lk tl) : Snd P ops Q E nt i s c (d :: lk) tl := by
  intro tm bk hag K a w hr hK
  subst htw
  have h1 := h tm bk ⟨fun t ht => hag.1 t (List.mem_cons_of_mem _ ht), hag.2⟩ K a w hr hK
  have hy : yielded ops a.tmps g = some t := by
    obtain ⟨ρ, Zn, hs⟩ := hr
    have h4 := hs.tmp d
    rw [hag.1 d List.mem_cons_self, hb] at h4
    have h5 := rep_lit h4
    have hd' : d < a.tmps.size := by rw [hs.ntmps]; exact Nat.blt_eq ▸ hlt
    unfold yielded
    rw [hog]
    simp only [Option.bind_some, hd]
    have : a.tmps[d]? = some (.bool t) := by
      rw [Array.getElem?_eq_getElem hd']
      unfold Act.eval at h5
      simp only [Array.getD_eq_getD_getElem?, Array.getElem?_eq_getElem hd', Option.getD_some] at h5
      rw [h5]
    rw [this]
  unfold wpOp
  simp only [ho]
  rw [if_pos (by simp [Region.wanted, hg, hy])]
  exact .inl h1
/-- One that its guard does not want. -/
theorem snd_off {o og : Oper} {i g d : Nat} {want t : Bool} {od : Option Nat} (ho : ops[i]? = some o) (hg : o.guard = some (g, want)) (hog : ops[g]? = some og) (hd : og.dst = some d) (hlt : Nat.blt d nt = true) (hb : gT s.tm d = .lit (.bool t)) (hne : t ≠ want) (hod : o.dst = od) (hlt' : ∀ e, od = some e → Nat.blt e nt = true) : Snd P ops Q E nt i s ⟨od, .junk, []⟩ [d] [] := by
  intro tm bk hag K a w hr hK
  obtain ⟨ρ, Zn, hs⟩ := hr
  have hy : yielded ops a.tmps g = some t := by
    have h4 := hs.tmp d
    rw [hag.1 d List.mem_cons_self, hb] at h4
    have h5 := rep_lit h4
    have hd' : d < a.tmps.size := by rw [hs.ntmps]; exact Nat.blt_eq ▸ hlt
    unfold yielded
    rw [hog]
    simp only [Option.bind_some, hd]
    have : a.tmps[d]? = some (.bool t) := by
      rw [Array.getElem?_eq_getElem hd']
      unfold Act.eval at h5
      simp only [Array.getD_eq_getD_getElem?, Array.getElem?_eq_getElem hd', Option.getD_some] at h5
      rw [h5]
    rw [this]
  unfold wpOp
  simp only [ho]
  rw [if_neg (by simp [Region.wanted, hg, hy, hne])]
  refine hK _ _ ⟨ρ, Zn, ?_⟩
  rw [upF_nil]
  cases od with
  | none => rw [hod]; exact hs
  | some e => rw [hod]; exact hs.put (hlt' e rfl) (.inl rfl)

/-! Control. -/
theorem aw_seq {x y : Code} (h : AW E nt P x (Exit.then (Code.wp P y Q) Q) s) : AW E nt P (.seq x y) Q s := fun a w hr => wp_seq (h a w hr)
theorem aw_block {id : Nat} {c : Code} (h : AW E nt P c (Exit.inBlock id Q) s) : AW E nt P (.block id c) Q s := fun a w hr => wp_block (h a w hr)
theorem aw_skip (h : ACont E nt s (Q .normal)) : AW E nt P .skip Q s := fun a w hr => wp_skip (h a w hr)
theorem aw_exit {id : Nat} (h : ACont E nt s (Q (.exit id))) : AW E nt P (.exit id) Q s := fun a w hr => wp_exit (h a w hr)
theorem aw_ret (h : ACont E nt s (Q .ret)) : AW E nt P .ret Q s := fun a w hr => wp_ret (h a w hr)
theorem ac_hit {id id' : Nat} (e : Nat.beq id id' = true) (h : ACont E nt s (Q .normal)) : ACont E nt s (Exit.inBlock id Q (.exit id')) := fun a w hr => by
  show if id' = id then Q .normal a w else Q (.exit id') a w
  rw [if_pos (beq_t e).symm]; exact h a w hr
theorem ac_miss {id id' : Nat} (e : Nat.beq id id' = false) (h : ACont E nt s (Q (.exit id'))) : ACont E nt s (Exit.inBlock id Q (.exit id')) := fun a w hr => by
  show if id' = id then Q .normal a w else Q (.exit id') a w
  rw [if_neg (fun e' => beq_f e e'.symm)]; exact h a w hr
def opd (s : S) : Operand → AV
  | .tmp t => gT s.tm t
  | .const v => .lit v
  | .func f => .fn f []
  | .global 0 => .rp .o (.agg (gW.map fun n => .lit (.int .u32 n))) 0
  | .global _ => .junk
def lkO : Operand → List Nat
  | .tmp t => [t]
  | _ => []
theorem St.opd {ρ : Nat → Value} {Zn : Nat → Prop} {tm : Nat → AV} {bk : Nat → Blk} {a : Act} {w : World} (h : St E nt ρ Zn tm bk a w) (x : Operand) (hx : ∀ t ∈ lkO x, tm t = gT s.tm t) : RepT (fz E Zn) w ρ bk (opd s x) (a.eval x) := by
  cases x with
  | tmp t => have := h.tmp t; rw [hx t (List.mem_singleton.2 rfl)] at this; exact this
  | const v => exact .inr (.inl rfl)
  | func f => exact .inr (.inr (.inl (.inl (.inr ⟨f, [], [], rfl, rfl, Fa.nil⟩))))
  | global g =>
    cases g with
    | succ g => exact .inl rfl
    | zero =>
      refine .inr (.inr (.inl (.inl (.inl ⟨⟨0, 0, none⟩, fun i => .int .u32 (gW.getD i 0), rfl, .inl E.gl.1, fun i lv hi => ?_⟩))))
      have hi' : (gW.map fun n => AV.lit (.int .u32 n))[i]? = some lv := hi
      rw [List.getElem?_map] at hi'
      obtain ⟨n, hn, rfl⟩ := Option.map_eq_some_iff.1 hi'
      have e : gW.getD i 0 = n := by rw [List.getD_eq_getElem?_getD, hn]; rfl
      show _ = some (Value.int .u32 (gW.getD i 0)) ∧ RepV _ w (AV.lit (Value.int .u32 n)) (Value.int .u32 (gW.getD i 0))
      rw [e]
      refine ⟨?_, .lit rfl⟩
      have ha : (⟨0, 0, none⟩ : Addr).add i = ⟨0, i, none⟩ := by unfold Addr.add; split <;> simp_all
      rw [ha, cell_block (w := E.W0) (h.keep 0 E.gl.1)]
      exact E.gl.2 i n hn
theorem aw_cond {c : Operand} {x y : Code} {t : Bool} (hc : Go.Proofs.YtahmbcgolnplgaaDoorA.opd s c = .lit (.bool t)) (ht : t = true → AW E nt P x Q s) (hf : t = false → AW E nt P y Q s) : AW E nt P (.cond c x y) Q s := by
  intro a w hr
  have he : a.eval c = .bool t := by
    obtain ⟨ρ, Zn, hs⟩ := hr
    have := St.opd (s := s) hs c (fun _ _ => rfl)
    rw [hc] at this
    exact rep_lit this
  exact wp_cond_split he (fun h => ht h a w hr) (fun h => hf h a w hr)
/-- A loop, by a number that falls. -/
theorem aw_loop {c : Code} (I : Nat → Act → World → Prop) (k : Nat) (h0 : ACont E nt s (I k)) (hround : ∀ k a w, I k a w → c.wp P (Exit.then (fun a' w' => ∃ k', k' < k ∧ I k' a' w') Q) a w) : AW E nt P (.loop c) Q s := by
  intro a w hr
  have ex : ∀ a w, (∃ k, I k a w) → ∃ k, I k a w ∧ ∀ k', I k' a w → k ≤ k' := by
    intro a w ⟨k, hk⟩
    induction k using Nat.strongRecOn with
    | _ k ih =>
      by_cases h : ∃ k', k' < k ∧ I k' a w
      · obtain ⟨k', h1, h2⟩ := h
        exact ih k' h1 h2
      · refine ⟨k, hk, fun k' hk' => ?_⟩
        rcases Nat.lt_or_ge k' k with hl | hl
        · exact absurd ⟨k', hl, hk'⟩ h
        · exact hl
  classical
  let μ : Act → World → Nat := fun a w => if h : ∃ k, I k a w then (ex a w h).choose else 0
  refine wp_loop (fun a w => ∃ k, I k a w) μ ⟨k, h0 a w hr⟩ (fun a w hI => ?_)
  have hm := (ex a w hI).choose_spec
  have hμ : μ a w = (ex a w hI).choose := dif_pos hI
  refine Code.wp_mono (fun e a' w' q => ?_) (hround _ a w hm.1)
  cases e with
  | normal =>
    obtain ⟨k', h1, h2⟩ := q
    refine ⟨⟨k', h2⟩, ?_⟩
    have hm' := (ex a' w' ⟨k', h2⟩).choose_spec
    have hμ' : μ a' w' = (ex a' w' ⟨k', h2⟩).choose := dif_pos ⟨k', h2⟩
    rw [hμ, hμ']
    exact Nat.lt_of_le_of_lt (hm'.2 k' h2) h1
  | _ => exact q
end
end Go.Proofs.YtahmbcgolnplgaaDoorA
