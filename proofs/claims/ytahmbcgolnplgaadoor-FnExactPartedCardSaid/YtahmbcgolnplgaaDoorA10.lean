/- The abstract machine, tenth part: the operations that turn memory. No claim lies here. -/
import Derived.Test.YtahmbcgolnplgaaDoorA9
import Derived.Laws.OwnMore
import Derived.Laws.MakeOwn
set_option linter.unusedVariables false
set_option linter.unusedSimpArgs false
namespace Go.Proofs.YtahmbcgolnplgaaDoorA
open Go

section
variable {P : Program} {E : Env} {nt : Nat} {s : S} {o : Oper} {d : Nat}
/-! Indexing what is the call's own. -/
theorem row_form {Zn : Nat → Prop} {w : World} {e sz : Nat} {v : Value} {xs : List AV} (h : RowOk Zn w e sz v xs) : ∃ A c, v = .slice A xs.length c ∧ xs.length ≤ c ∧ (0 < xs.length → ∃ g, A = some ⟨g, 0, none⟩) := by
  obtain ⟨h0, inner, ho, hl, hr⟩ := h
  rcases ho.2 with ⟨rfl, hn⟩ | ⟨g, cap, cur, rfl, _, _, hnc, _⟩
  · exact ⟨none, 0, by rw [hn], by omega, fun h => by omega⟩
  · exact ⟨_, cap, rfl, hnc, fun _ => ⟨g, rfl⟩⟩
theorem r_ixR {T e e' sz sz' b : Nat} {x y : Operand} {xs : List AV} {k : IntKind} {i : Int} (hop : o.op = .indexAddr T x y) (hd : o.dst = some d) (hlt : Nat.blt d nt = true) (hx : opd s x = .row b) (hb : gB s.bk b = .row e' sz xs) (hy : opd s y = .lit (.int k i)) (h0 : 0 ≤ i) (h1 : i < (xs.length : Int)) (hT : sliceT P T e sz' = true) (hz : Nat.beq sz' sz = true) : Okv P E nt o s ⟨some d, .elp b sz i.toNat 0, []⟩ (lkO x ++ lkO y) [b] :=
  okv_val hd hlt fun tm bk ρ Zn a w hag hs => by
    have hz := beq_t hz
    subst hz
    have h2 := St.opd (s := s) hs x (fun t ht => hag.1 t (List.mem_append_left _ ht))
    have h3 := St.opd (s := s) hs y (fun t ht => hag.1 t (List.mem_append_right _ ht))
    rw [hx] at h2
    rw [hy] at h3
    have h3 := rep_lit h3
    obtain ⟨hf, h4, _⟩ := rep_C00 h2 rfl
    have hblk := hs.blk b
    rw [hag.2 b (List.mem_singleton.2 rfl), hb] at hblk
    obtain ⟨A, c, e1, hc, hA⟩ := row_form hblk
    obtain ⟨g, rfl⟩ := hA (by omega)
    refine ⟨_, ?_, rep_of_C (.inl ⟨hf, g, _, c, e1, rfl⟩)⟩
    unfold execOp
    simp only [hop]
    rw [Sem.run_bind, h3, h4, e1, indexAt_run hT h0 (by omega) rfl, add_lit]
    rfl
theorem arr_index_run {T n sz : Nat} (hT : arrT P T n sz = true) {k : IntKind} {i : Int} (h0 : 0 ≤ i) (h1 : i < (n : Int)) (ad : Addr) (w : World) : (Instr.indexAt T (.pointer (some ad)) (.int k i)).run P w = .ok (.pointer (some (ad.add (i.toNat * sz)))) w := by
  unfold arrT at hT
  cases hu : P.underlying T with
  | none => rw [hu] at hT; cases hT
  | some t =>
    cases t with
    | array n' e' =>
      rw [hu] at hT
      simp only [Bool.and_eq_true] at hT
      have he := beq_t hT.1
      subst he
      have hs := size_run hT.2 w
      simp [Instr.indexAt, run_underlying hu, asIntOf, h0, h1, hs, Instr.sureAddr]
    | _ => rw [hu] at hT; cases hT
/-- An array's element. -/
theorem r_ixA {T n sz : Nat} {x y : Operand} {p q : AV} {k : IntKind} {i : Int} (hop : o.op = .indexAddr T x y) (hd : o.dst = some d) (hlt : Nat.blt d nt = true) (hx : opd s x = p) (hp : isPtr p = true) (hy : opd s y = .lit (.int k i)) (h0 : 0 ≤ i) (h1 : i < (n : Int)) (hT : arrT P T n sz = true) (hq : ptrAdd (i.toNat * sz) p = q) : Okv P E nt o s ⟨some d, q, []⟩ (lkO x ++ lkO y) [] :=
  okv_val hd hlt fun tm bk ρ Zn a w hag hs => by
    have h2 := St.opd (s := s) hs x (fun t ht => hag.1 t (List.mem_append_left _ ht))
    have h3 := St.opd (s := s) hs y (fun t ht => hag.1 t (List.mem_append_right _ ht))
    rw [hx] at h2
    rw [hy] at h3
    have h3 := rep_lit h3
    obtain ⟨ad, h4, h5⟩ := ptrAdd_ok hp h2 (i.toNat * sz)
    refine ⟨_, ?_, hq ▸ h5⟩
    unfold execOp
    simp only [hop]
    rw [Sem.run_bind, h3, h4, arr_index_run hT h0 h1]
    rfl
/-! Lengths. -/
/-- What has a length. -/
inductive Ln (s : S) : AV → Int → List Nat → Prop
  | row {b e sz : Nat} {xs : List AV} {n : Int} : gB s.bk b = .row e sz xs → (xs.length : Int) = n → Ln s (.row b) n [b]
  | sub {b sz lo n : Nat} {m : Int} : (n : Int) = m → Ln s (.sub b sz lo n) m []
  | sl {z : Fl} {sz : Nat} {xs : List AV} {n : Int} : (xs.length : Int) = n → Ln s (.sl z sz xs) n []
  | nil {A : Option Addr} {n c : Nat} : Ln s (.lit (.slice A n c)) n []
theorem Ln.ok {x : AV} {n : Int} {tl : List Nat} (h : Ln s x n tl) {ρ : Nat → Value} {Zn : Nat → Prop} {tm : Nat → AV} {bk : Nat → Blk} {a : Act} {w : World} (hs : St E nt ρ Zn tm bk a w) (hb : ∀ b ∈ tl, bk b = gB s.bk b) {u : Value} (hu : RepT (fz E Zn) w ρ bk x u) : ∃ A m c, u = .slice A m c ∧ (m : Int) = n := by
  cases h with
  | @row b e sz xs n h1 h2 =>
    obtain ⟨_, rfl, _⟩ := rep_C00 hu rfl
    have hblk := hs.blk b
    rw [hb b (List.mem_singleton.2 rfl), h1] at hblk
    obtain ⟨A, c, e1, _⟩ := row_form hblk
    exact ⟨A, _, c, e1, h2⟩
  | @sub b sz lo n m h1 =>
    obtain ⟨_, A, N, c, h2, h3, rfl⟩ := rep_C00 hu rfl
    refine ⟨_, _, _, rfl, ?_⟩
    rw [Nat.add_sub_cancel_left]; exact h1
  | @sl z sz xs n h1 =>
    have h2 : RepV (fz E Zn z) w (.sl z sz xs) u := rep_C00 hu rfl
    cases h2 with
    | sl ad f hc hm hz hA hl hcell hrep => exact ⟨_, _, _, rfl, h1⟩
  | @nil A n c => exact ⟨A, n, c, rep_lit hu, rfl⟩
def isSliceT (P : Program) (T : TypeId) : Bool := match P.underlying T with
  | some (.slice _) => true
  | _ => false
theorem r_len {T : TypeId} {x : Operand} {p : AV} {n : Int} {tl : List Nat} (hop : o.op = .call { callee := .builtin .len, args := #[x], argTypes := #[T] }) (hd : o.dst = some d) (hlt : Nat.blt d nt = true) (hx : opd s x = p) (hl : Ln s p n tl) (hT : isSliceT P T = true) : Okv P E nt o s ⟨some d, .lit (.int .i64 n), []⟩ (lkO x) tl :=
  okv_val hd hlt fun tm bk ρ Zn a w hag hs => by
    have h2 := St.opd (s := s) hs x hag.1
    rw [hx] at h2
    obtain ⟨A, m, c, h3, rfl⟩ := hl.ok hs hag.2 h2
    refine ⟨_, ?_, .inr (.inl rfl)⟩
    unfold isSliceT at hT
    cases hu : P.underlying T with
    | none => rw [hu] at hT; cases hT
    | some t =>
      cases t with
      | slice e' => simp [execOp, hop, resolve, invoke, builtin, h3, Builtin.len_, run_underlying hu, goInt]
      | _ => rw [hu] at hT; cases hT
def isStrT (P : Program) (T : TypeId) : Bool := match P.underlying T with
  | some .string => true
  | _ => false
theorem isStrT_of {T : TypeId} (hT : isStrT P T = true) : P.underlying T = some .string := by
  unfold isStrT at hT
  revert hT
  cases h : P.underlying T with
  | none => intro h; cases h
  | some t => cases t <;> first | (intro h; cases h; done) | (intro _; rfl)
theorem r_lenStr {T : TypeId} {x : Operand} {b : ByteArray} (hop : o.op = .call { callee := .builtin .len, args := #[x], argTypes := #[T] }) (hd : o.dst = some d) (hlt : Nat.blt d nt = true) (hx : opd s x = .lit (.string b)) (hT : isStrT P T = true) : Okv P E nt o s ⟨some d, .lit (.int .i64 (b.size : Int)), []⟩ (lkO x) [] := by
  have := okv_lit (P := P) (E := E) (s := s) (l := [(x, .string b)]) (v := .int .i64 (b.size : Int)) hd hlt (by simp [hx]) (fun ρ w h => by
    have h1 := h (x, .string b) (by simp)
    simp only at h1
    simp [execOp, hop, h1, resolve, invoke, builtin, Builtin.len_, run_underlying (isStrT_of hT), goInt])
  simpa using this
theorem r_min {Ts : Array TypeId} {x y : Operand} {k : IntKind} {m n : Int} (hop : o.op = .call { callee := .builtin .min, args := #[x, y], argTypes := Ts }) (hd : o.dst = some d) (hlt : Nat.blt d nt = true) (hx : opd s x = .lit (.int k m)) (hy : opd s y = .lit (.int k n)) : Okv P E nt o s ⟨some d, .lit (.int k (if n < m then n else m)), []⟩ (lkO x ++ lkO y) [] := by
  have := okv_lit (P := P) (E := E) (s := s) (l := [(x, .int k m), (y, .int k n)]) (v := .int k (if n < m then n else m)) hd hlt (by simp [hx, hy]) (fun ρ w h => by
    have h1 := h (x, .int k m) (by simp)
    have h2 := h (y, .int k n) (by simp)
    simp only at h1 h2
    simp [execOp, hop, h1, h2, resolve, invoke, builtin, Builtin.min_, Builtin.min2])
  simpa using this
theorem r_max {Ts : Array TypeId} {x y : Operand} {k : IntKind} {m n : Int} (hop : o.op = .call { callee := .builtin .max, args := #[x, y], argTypes := Ts }) (hd : o.dst = some d) (hlt : Nat.blt d nt = true) (hx : opd s x = .lit (.int k m)) (hy : opd s y = .lit (.int k n)) : Okv P E nt o s ⟨some d, .lit (.int k (if n > m then n else m)), []⟩ (lkO x ++ lkO y) [] := by
  have := okv_lit (P := P) (E := E) (s := s) (l := [(x, .int k m), (y, .int k n)]) (v := .int k (if n > m then n else m)) hd hlt (by simp [hx, hy]) (fun ρ w h => by
    have h1 := h (x, .int k m) (by simp)
    have h2 := h (y, .int k n) (by simp)
    simp only at h1 h2
    simp [execOp, hop, h1, h2, resolve, invoke, builtin, Builtin.max_, Builtin.max2])
  simpa using this
/-! Strings. -/
theorem r_ixStr {T : TypeId} {x y : Operand} {b : ByteArray} {k : IntKind} {i n : Int} (hop : o.op = .index T x y) (hd : o.dst = some d) (hlt : Nat.blt d nt = true) (hx : opd s x = .lit (.string b)) (hy : opd s y = .lit (.int k i)) (hT : isStrT P T = true) (h0 : 0 ≤ i) (h1 : i < (b.size : Int)) (hn : ∀ h : i.toNat < b.size, ((b[i.toNat]'h).toNat : Int) = n) : Okv P E nt o s ⟨some d, .lit (.int .u8 n), []⟩ (lkO x ++ lkO y) [] := by
  have hi : i.toNat < b.size := by omega
  have := okv_lit (P := P) (E := E) (s := s) (l := [(x, .string b), (y, .int k i)]) (v := .int .u8 n) hd hlt (by simp [hx, hy]) (fun ρ w h => by
    have e1 := h (x, .string b) (by simp)
    have e2 := h (y, .int k i) (by simp)
    simp only at e1 e2
    have hg : b[i.toNat]? = some (b[i.toNat]'hi) := getElem?_pos b i.toNat hi
    simp [execOp, hop, e1, e2, Instr.index, asIntOf, run_underlying (isStrT_of hT), h0, hg, hn hi])
  simpa using this
/-- s[i:j] of a string. -/
theorem r_slStr {T : TypeId} {x : Operand} {lo hi : Option Operand} {b r : ByteArray} (vl vh : Option Value) (hop : o.op = .slice T x lo hi none) (hd : o.dst = some d) (hlt : Nat.blt d nt = true) (hx : opd s x = .lit (.string b)) (hl : ∀ y, lo = some y → ∃ v, vl = some v ∧ opd s y = .lit v) (hl0 : lo = none → vl = none) (hh : ∀ y, hi = some y → ∃ v, vh = some v ∧ opd s y = .lit v) (hh0 : hi = none → vh = none)
    (hr : ∀ w, (Instr.sliceAt T (.string b) vl vh none).run P w = .ok (.string r) w) : Okv P E nt o s ⟨some d, .lit (.string r), []⟩ (lkO x ++ (lo.toList.flatMap lkO ++ hi.toList.flatMap lkO)) [] :=
  okv_val hd hlt fun tm bk ρ Zn a w hag hs => by
    have h1 := St.opd (s := s) hs x (fun t ht => hag.1 t (List.mem_append_left _ ht))
    rw [hx] at h1
    have e1 : lo.map a.eval = vl := by
      cases lo with
      | none => rw [hl0 rfl]; rfl
      | some y =>
        obtain ⟨v, rfl, hv⟩ := hl y rfl
        have h2 := St.opd (s := s) hs y (fun t ht => hag.1 t (List.mem_append_right _ (List.mem_append_left _ (List.mem_flatMap.2 ⟨y, List.mem_singleton.2 rfl, ht⟩))))
        rw [hv] at h2
        rw [Option.map_some, rep_lit h2]
    have e2 : hi.map a.eval = vh := by
      cases hi with
      | none => rw [hh0 rfl]; rfl
      | some y =>
        obtain ⟨v, rfl, hv⟩ := hh y rfl
        have h2 := St.opd (s := s) hs y (fun t ht => hag.1 t (List.mem_append_right _ (List.mem_append_right _ (List.mem_flatMap.2 ⟨y, List.mem_singleton.2 rfl, ht⟩))))
        rw [hv] at h2
        rw [Option.map_some, rep_lit h2]
    refine ⟨_, ?_, .inr (.inl rfl)⟩
    unfold execOp
    simp only [hop]
    rw [Sem.run_bind, rep_lit h1, e1, e2, Option.map_none, hr]
    rfl
/-! New blocks. -/
theorem upF_one (bk : Nat → Blk) (b : Nat) (x : Blk) : upF bk [(b, x)] = fun i => if i = b then x else bk i := by
  funext i
  show (match (match Nat.beq i b with | true => some x | false => none) with | some y => y | none => bk i) = _
  cases he : Nat.beq i b with
  | true => simp [beq_t he]
  | false => simp [beq_f he]
/-- A box of known cells comes, and its pointer. -/
theorem okv_box {nb t : Nat} {cells : List AV} {lk tl : List Nat} (hd : o.dst = some d) (hlt : Nat.blt d nt = true) (hnb : gB s.bk nb = .fresh)
    (h : ∀ tm bk ρ Zn a w, Agree s lk (nb :: tl) tm bk → St E nt ρ Zn tm bk a w → ∃ cs : List Value, (execOp a.eval o).run P w = .ok (.value (.pointer (some ⟨w.heap.size, 0, none⟩))) (w.alloc (.cells cs.toArray t)) ∧ Fa (RepC (fz E Zn) w ρ bk) cells cs) :
    Okv P E nt o s ⟨some d, .box nb 0, [(nb, .box t cells)]⟩ lk (nb :: tl) := by
  intro tm bk hag a w ⟨ρ, Zn, hs⟩
  obtain ⟨cs, h1, h2⟩ := h tm bk ρ Zn a w hag hs
  have hf : bk nb = .fresh := (hag.2 nb List.mem_cons_self).trans hnb
  refine ⟨_, _, _, h1, .inl rfl, fun i => if i = nb then .pointer (some ⟨w.heap.size, 0, none⟩) else ρ i, Zn, ?_⟩
  have h3 := hs.new hf (x := .box t cells) (v := .pointer (some ⟨w.heap.size, 0, none⟩)) (obj := .cells cs.toArray t) rfl (fun ρ' bk' m => ⟨w.heap.size, cs, rfl, heap_alloc_new w _, h2.imp fun _ _ h => RepC.move m h⟩) (fun k hk => by simpa [refB] using hk.symm)
  rw [hd]
  refine h3.put hlt (rep_of_C (.inl ⟨?_, w.heap.size, ?_, rfl⟩))
  · rw [upF_one]; simp
  · simp
/-- A row comes, and its header. -/
theorem okv_row {nb e sz : Nat} {xs : List AV} {lk tl : List Nat} (hd : o.dst = some d) (hlt : Nat.blt d nt = true) (hnb : gB s.bk nb = .fresh)
    (h : ∀ tm bk ρ Zn a w, Agree s lk (nb :: tl) tm bk → St E nt ρ Zn tm bk a w → ∃ v w', (execOp a.eval o).run P w = .ok (.value v) w' ∧ w.grownBy w' none ∧ (∀ k, v.ownBlock = some k → w.heap.size ≤ k) ∧ RowOk Zn w' e sz v xs) :
    Okv P E nt o s ⟨some d, .row nb, [(nb, .row e sz xs)]⟩ lk (nb :: tl) := by
  intro tm bk hag a w ⟨ρ, Zn, hs⟩
  obtain ⟨v, w', h1, hg, hv, hrow⟩ := h tm bk ρ Zn a w hag hs
  have hf : bk nb = .fresh := (hag.2 nb List.mem_cons_self).trans hnb
  have hsame : ∀ k, k < w.heap.size → w'.heap[k]? = w.heap[k]? := fun k hk => hg.block k hk (by simp)
  have hform := row_form hrow
  have hrb : ∀ k, refB v = some k → w.heap.size ≤ k := by
    obtain ⟨A, c, rfl, _⟩ := hform
    intro k hk
    refine hv k ?_
    cases A with
    | none => cases hk
    | some a => exact hk
  refine ⟨_, v, w', h1, .inl rfl, fun i => if i = nb then v else ρ i, Zn, ?_⟩
  have h3 : St E nt (fun i => if i = nb then v else ρ i) Zn tm (upF bk [(nb, .row e sz xs)]) a w' := by
    refine hs.upd (fun i => i = nb) hg.os hg.tape hg.output hg.size (fun k hk _ => hsame k hk) (fun i hi => if_neg hi) (fun i hi => by rw [upF_one]; exact if_neg hi) (fun i hi hne => absurd (hi ▸ hf) hne) (fun _ h => h) (fun _ h => .inl h) (fun i hi m => ?_) (fun i k hi ho => ?_) (fun i j k hi hj _ _ => hi.trans hj.symm) rfl rfl (fun i => .inl ⟨rfl, rfl⟩) (fun i hi => by subst hi; rw [upF_one]; refine ⟨by rw [hf]; rfl, ?_⟩; show isD (if i = i then _ else bk i) = false; rw [if_pos rfl]; rfl)
    · subst hi
      rw [upF_one]
      show BlkOk _ _ _ _ (if i = i then v else ρ i) (if i = i then Blk.row e sz xs else bk i)
      rw [if_pos rfl, if_pos rfl]
      exact hrow
    · subst hi
      have h2 : refB (if i = i then v else ρ i) = some k := ho.2
      rw [if_pos rfl] at h2
      have := hrb k h2
      exact ⟨.inl this, fun hz => absurd (hs.zn _ hz).1 (by omega)⟩
  rw [hd]
  refine h3.put hlt (rep_of_C (.inl ⟨?_, ?_, ?_⟩))
  · rw [upF_one]; simp
  · simp
  · obtain ⟨A, c, rfl, _⟩ := hform; rfl
def zeroOf (P : Program) (T : TypeId) : Option (List Value) := match P.info? T with
  | some i => (match i.zero with
    | some z => some z.cells.toList
    | none => none)
  | none => none
theorem zero_run {T : TypeId} {zs : List Value} (h : zeroOf P T = some zs) (w : World) : ∃ z, (zeroValue T).run P w = .ok z w ∧ z.cells.toList = zs := by
  unfold zeroOf at h
  cases hi : P.info? T with
  | none => rw [hi] at h; cases h
  | some i =>
    rw [hi] at h
    simp only at h
    cases hz : i.zero with
    | none => rw [hz] at h; cases h
    | some z =>
      rw [hz] at h
      injection h with h
      exact ⟨z, by simp [zeroValue, typeInfo, hi, hz], h⟩
theorem fa_lits {Zf : Fl → Nat → Prop} {w : World} {ρ : Nat → Value} {bk : Nat → Blk} {zs : List Value} (h : zs.all (·.oneCell') = true) : Fa (RepC Zf w ρ bk) (zs.map .lit) zs :=
  Fa.map_left.2 ⟨rfl, fun i a b ha hb => by
    rw [ha] at hb; injection hb with hb; subst hb
    exact .inl ⟨rfl, List.all_eq_true.1 h a (List.mem_of_getElem? ha)⟩⟩
theorem r_alloc {T nb : Nat} {zs : List Value} {cells : List AV} (hop : o.op = .alloc T) (hd : o.dst = some d) (hlt : Nat.blt d nt = true) (hnb : gB s.bk nb = .fresh) (hz : zeroOf P T = some zs) (h1 : zs.all (·.oneCell') = true) (hc : zs.map .lit = cells) : Okv P E nt o s ⟨some d, .box nb 0, [(nb, .box T cells)]⟩ [] [nb] :=
  okv_box hd hlt hnb fun tm bk ρ Zn a w hag hs => by
    obtain ⟨z, h2, h3⟩ := zero_run hz w
    refine ⟨zs, ?_, hc ▸ fa_lits h1⟩
    have : z.cells = zs.toArray := by rw [← h3]
    unfold execOp
    simp only [hop]
    simp [Instr.alloc, h2, newVar, newRow, this]
theorem r_box {T nb : Nat} {x : Operand} {y : AV} {cells : List AV} (hop : o.op = .box T x) (hd : o.dst = some d) (hlt : Nat.blt d nt = true) (hnb : gB s.bk nb = .fresh) (hx : opd s x = y) (hy : notT y = true) (hc : y.leaves = cells) : Okv P E nt o s ⟨some d, .box nb 0, [(nb, .box T cells)]⟩ (lkO x) [nb] :=
  okv_box hd hlt hnb fun tm bk ρ Zn a w hag hs => by
    have h1 := St.opd (s := s) hs x hag.1
    rw [hx] at h1
    have h2 := rep_A (rep_A_of h1 hy)
    refine ⟨(a.eval x).cells.toList, ?_, hc ▸ h2⟩
    unfold execOp
    simp only [hop]
    simp [Instr.box, newVar, newRow]
end
end Go.Proofs.YtahmbcgolnplgaaDoorA
