/- The abstract machine, twentieth part: texts, appends to a front, freezing. No claim lies here. -/
import Derived.Test.YtahmbcgolnplgaaDoorA19
import Derived.Laws.BytesArg
import Derived.Laws.Strings2
set_option linter.unusedVariables false
set_option linter.unusedSimpArgs false
namespace Go.Proofs.YtahmbcgolnplgaaDoorA
open Go Go.RowKit
def bt (s : ByteArray) (i : Int) : Int := if h : i.toNat < s.size then ((s[i.toNat]'h).toNat : Int) else 0
section
variable {P : Program} {E : Env} {nt : Nat} {s : S} {o : Oper} {d : Nat}
theorem fld {T f : Nat} {x : Operand} {l : List AV} {y : AV} (off : Nat) (hop : o.op = .field T x f := by rfl) (hx : opd s x = .agg l := by rfl) (hy : l[off]? = some y := by rfl) (hT : fieldT P T f off = true := by kernel_rfl) (hS : (match P.underlying T with | some (.struct fs) => (match fs[f]? with | some fd => scalarT P fd.type | none => false) | _ => false) = true := by kernel_rfl) (hd : o.dst = some d := by rfl) (hlt : Nat.blt d nt = true := by rfl) : Okv P E nt o s ⟨some d, y, []⟩ (lkO x) [] := r_fld (ft := 0) hop hd hlt hx hT hS hy
/-! Texts. -/
theorem ixT {T : TypeId} {x y : Operand} {b : ByteArray} {k : IntKind} {i : Int} (h0 : 0 ≤ i) (h1 : i < (b.size : Int)) (hop : o.op = .index T x y := by rfl) (hx : opd s x = .lit (.string b) := by rfl) (hy : opd s y = .lit (.int k i) := by rfl) (hT : isStrT P T = true := by kernel_rfl) (hd : o.dst = some d := by rfl) (hlt : Nat.blt d nt = true := by rfl) : Okv P E nt o s ⟨some d, .lit (.int .u8 (bt b i)), []⟩ (lkO x ++ lkO y) [] :=
  r_ixStr hop hd hlt hx hy hT h0 h1 (fun h => by unfold bt; rw [dif_pos h])
theorem strT_of {T : TypeId} (h : isStrT P T = true) : P.underlying T = some .string := by
  unfold isStrT at h
  split at h
  · assumption
  · cases h
theorem tsH {T : TypeId} {x y : Operand} {b : ByteArray} {k : IntKind} {h : Int} (h0 : 0 ≤ h) (h1 : h ≤ (b.size : Int)) (hop : o.op = .slice T x none (some y) none := by rfl) (hx : opd s x = .lit (.string b) := by rfl) (hy : opd s y = .lit (.int k h) := by rfl) (hT : isStrT P T = true := by kernel_rfl) (hd : o.dst = some d := by rfl) (hlt : Nat.blt d nt = true := by rfl) : Okv P E nt o s ⟨some d, .lit (.string (b.extract 0 h.toNat)), []⟩ (lkO x ++ lkO y) [] := by
  have := r_slStr (P := P) (E := E) (nt := nt) (s := s) (r := b.extract 0 h.toNat) none (some (.int k h)) hop hd hlt hx (fun _ h => by cases h) (fun _ => rfl) (fun y' h => by cases h; exact ⟨_, rfl, hy⟩) (fun h => by cases h) (fun w => by rw [run_sliceAt_string w T _ _ _ _ (strT_of hT), run_slice_string_h w T b (strT_of hT) k h h0 h1])
  simpa using this
theorem tsL {T : TypeId} {x y : Operand} {b : ByteArray} {k : IntKind} {l : Int} (h0 : 0 ≤ l) (h1 : l ≤ (b.size : Int)) (hop : o.op = .slice T x (some y) none none := by rfl) (hx : opd s x = .lit (.string b) := by rfl) (hy : opd s y = .lit (.int k l) := by rfl) (hT : isStrT P T = true := by kernel_rfl) (hd : o.dst = some d := by rfl) (hlt : Nat.blt d nt = true := by rfl) : Okv P E nt o s ⟨some d, .lit (.string (b.extract l.toNat b.size)), []⟩ (lkO x ++ lkO y) [] := by
  have := r_slStr (P := P) (E := E) (nt := nt) (s := s) (r := b.extract l.toNat b.size) (some (.int k l)) none hop hd hlt hx (fun y' h => by cases h; exact ⟨_, rfl, hy⟩) (fun h => by cases h) (fun _ h => by cases h) (fun _ => rfl) (fun w => by rw [run_sliceAt_string w T _ _ _ _ (strT_of hT), run_slice_string_l w T b (strT_of hT) k l h0 h1])
  simpa using this
theorem tsLH {T : TypeId} {x y y2 : Operand} {b : ByteArray} {k k2 : IntKind} {l h : Int} (h0 : 0 ≤ l) (h1 : l ≤ h) (h2 : h ≤ (b.size : Int)) (hop : o.op = .slice T x (some y) (some y2) none := by rfl) (hx : opd s x = .lit (.string b) := by rfl) (hy : opd s y = .lit (.int k l) := by rfl) (hy2 : opd s y2 = .lit (.int k2 h) := by rfl) (hT : isStrT P T = true := by kernel_rfl) (hd : o.dst = some d := by rfl) (hlt : Nat.blt d nt = true := by rfl) : Okv P E nt o s ⟨some d, .lit (.string (b.extract l.toNat h.toNat)), []⟩ (lkO x ++ (lkO y ++ lkO y2)) [] := by
  have := r_slStr (P := P) (E := E) (nt := nt) (s := s) (r := b.extract l.toNat h.toNat) (some (.int k l)) (some (.int k2 h)) hop hd hlt hx (fun y' h => by cases h; exact ⟨_, rfl, hy⟩) (fun h => by cases h) (fun y' h => by cases h; exact ⟨_, rfl, hy2⟩) (fun h => by cases h) (fun w => by rw [run_sliceAt_string w T _ _ _ _ (strT_of hT), run_slice_string w T b k k2 l h (strT_of hT) h0 h1 h2])
  simpa using this
def bytesT (P : Program) (src dst : TypeId) : Bool := (match P.underlying src with
  | some (.slice e) => (match P.underlying e with
    | some (.int .u8) => true
    | _ => false)
  | _ => false) && isStrT P dst
theorem bytesT_of {src dst : TypeId} (h : bytesT P src dst = true) : ∃ e, P.underlying src = some (.slice e) ∧ P.underlying e = some (.int .u8) ∧ P.underlying dst = some .string := by
  unfold bytesT at h
  rw [Bool.and_eq_true] at h
  obtain ⟨h1, h2⟩ := h
  split at h1
  · rename_i e he
    split at h1
    · rename_i h3; exact ⟨e, he, h3, strT_of h2⟩
    · cases h1
  · cases h1
/-- string(b). -/
theorem cvB {src dst : TypeId} {x : Operand} {p : AV} {l : List Int} {tl : List Nat} (hn : Nw s 1 p (l.map (eI .u8)) tl) (hop : o.op = .convert src dst x := by rfl) (hx : opo s x = some p := by rfl) (hT : bytesT P src dst = true := by kernel_rfl) (hd : o.dst = some d := by rfl) (hlt : Nat.blt d nt = true := by rfl) : Okv P E nt o s ⟨some d, .lit (.string (strOfNums l)), []⟩ (lkO x) tl :=
  okv_val hd hlt fun tm bk ρ Zn a w hag hs => by
    have h1 := St.opd (s := s) hs x hag.1
    rw [opo_some hx] at h1
    obtain ⟨e, hsrc, he, hdst⟩ := bytesT_of hT
    refine ⟨_, ?_, .inr (.inl rfl)⟩
    unfold execOp
    simp only [hop]
    rw [Sem.run_bind]
    have key : (convert src dst (a.eval x)).run P w = .ok (.string (strOfNums l)) w := by
      rcases hn.ok hs hag.2 h1 with ⟨e1, e2⟩ | ⟨A, c, e1, e2, e3, e4⟩
      · have : l = [] := by simpa using e2
        subst this
        rw [e1, run_convert_bytes_nil w src e hsrc he 0 0 dst hdst]; rfl
      · rw [e1, List.length_map]
        cases A with
        | none =>
          have : l = [] := by
            rcases Nat.eq_zero_or_pos l.length with h | h
            · exact List.eq_nil_of_length_eq_zero h
            · obtain ⟨ad, had⟩ := e2 (by rw [List.length_map]; exact h); cases had
          subst this
          rw [run_convert_bytes_nil w src e hsrc he _ _ dst hdst]; rfl
        | some ad =>
          have hl : (loadCells ad l.length).run P w = .ok (l.map (Value.int .u8)).toArray w := by
            have := run_loadCells_list (P := P) w ad (l.map (Value.int .u8)) (fun j v hj => by
              rw [List.getElem?_map] at hj
              obtain ⟨n, hn, rfl⟩ := Option.map_eq_some_iff.1 hj
              obtain ⟨q, hq, hr⟩ := e4 ad rfl j (eI .u8 n) 0 (.lit (.int .u8 n)) (by rw [List.getElem?_map, hn]; rfl) rfl
              rw [Nat.mul_one, Nat.add_zero] at hq
              rw [hq]
              cases hr with
              | lit _ => rfl)
            simpa using this
          rw [run_convert_bytes_string w src dst e _ l.length c hsrc he hdst, run_bytesToString w _ l.length c l hl, foldl_push_bytes]
          simp [strOfNums, ByteArray.empty, ByteArray.emptyWithCapacity]
          rfl
    rw [key]
    rfl
/-! append to a front of an own row. -/
theorem apS {T b n : Nat} {x y : Operand} {p : AV} {xs ys : List AV} {tl : List Nat} (nb e sz bytes : Nat) (zs : List Value) (zz : List AV) (hnx : n ≤ xs.length) (hn : Nw s sz p ys tl) (hlen : (n + ys.length) * bytes ≤ 140737488355328) (hzz : xs.take n ++ ys = zz) (hop : o.op = .call { callee := .builtin .append, args := #[x, y], argTypes := #[T, T] } := by rfl) (hx : opd s x = .sub b sz 0 n := by rfl) (hb : gB s.bk b = .row e sz xs := by rfl) (hy : opo s y = some p := by rfl) (hnb : gB s.bk nb = .fresh := by rfl) (hT : sliceT P T e sz = true := by kernel_rfl) (hz : zeroOf P e = some zs := by kernel_rfl) (hzl : Nat.beq zs.length sz = true := by rfl) (hby : bytesIs P e bytes = true := by kernel_rfl) (hb0 : Nat.blt 0 bytes = true := by rfl) (hd : o.dst = some d := by rfl) (hlt : Nat.blt d nt = true := by rfl) : Okv P E nt o s ⟨some d, .row nb, [(b, .gone), (nb, .row e sz zz)]⟩ (lkO x ++ lkO y) (nb :: b :: tl) :=
  okv_grow hd hlt hnb hb fun tm bk ρ Zn a w hag hs hrow => by
    have h1 := St.opd (s := s) hs x (fun t ht => hag.1 t (List.mem_append_left _ ht))
    have h2 := St.opd (s := s) hs y (fun t ht => hag.1 t (List.mem_append_right _ ht))
    rw [hx] at h1
    rw [opo_some hy] at h2
    obtain ⟨_, A, N, c, e1, e2, e3⟩ := rep_C00 h1 rfl
    have h4 := hn.ok hs (fun b hb => hag.2 b (List.mem_cons_of_mem _ (List.mem_cons_of_mem _ hb))) h2
    rw [e1] at hrow
    obtain ⟨f1, f2, f3⟩ := row_front hrow (show n ≤ N by omega)
    have hob : (sliced A 0 (0 + n) c sz).ownBlock = (ρ b).ownBlock := by
      rw [e1]
      unfold sliced
      rw [Nat.zero_mul]
      cases A with
      | none => split <;> rfl
      | some ad => split <;> simp [Value.ownBlock, Addr.add]
    have hlx : (xs.take n).length = n := by rw [List.length_take]; omega
    obtain ⟨v', w', r1, r2, r3, r4⟩ := append_run (P := P) (ty := o.type) hT hz hzl hby hb0 f1 h4 (by rw [hlx]; exact hlen)
    rw [hob] at r2 r3
    exact ⟨v', w', append_exec hop (by rw [e3]; exact r1), r2, r3, fun hz => hzz ▸ r4 hz⟩
theorem apbS {α β : Type} {g : β → AV} {x : List α} {y : List β} {n N b : Nat} (h : (x.take n).length + y.length < N) (hn : n ≤ x.length) (hN : Nat.ble (N * b) 140737488355328 = true) : (n + (y.map g).length) * b ≤ 140737488355328 := by
  rw [List.length_map]
  rw [List.length_take] at h
  exact Nat.le_trans (Nat.mul_le_mul_right b (by omega)) (Nat.le_of_ble_eq_true hN)
theorem appS {α : Type} {f : α → AV} {l m : List α} {n : Nat} : (l.map f).take n ++ m.map f = (l.take n ++ m).map f := by rw [← List.map_take, List.map_append]
end
/-! Freezing: an own row that nobody writes to any more. -/
def fzL (b sz : Nat) (xs : List AV) : AV → AV
  | .row c => match Nat.beq c b with
    | true => .sl .n sz xs
    | false => .row c
  | .sub c s lo n => match Nat.beq c b with
    | true => (match Nat.beq s sz with
      | true => .sl .n sz ((xs.drop lo).take n)
      | false => .junk)
    | false => .sub c s lo n
  | .elp c s i j => match Nat.beq c b with
    | true => .junk
    | false => .elp c s i j
  | x => x
section
variable {E : Env} {nt : Nat} {tm : List (Nat × AV)} {bk : List (Nat × Blk)} {K : Act → World → Prop}
theorem gT_map {g : AV → AV} (hj : g .junk = .junk) : ∀ (l : List (Nat × AV)) (i : Nat), gT (l.map fun p => (p.1, g p.2)) i = g (gT l i)
  | [], i => hj.symm
  | (j, x) :: r, i => by
    show (match Nat.beq i j with | true => g x | false => gT (r.map fun p => (p.1, g p.2)) i) = g (match Nat.beq i j with | true => x | false => gT r i)
    cases Nat.beq i j with
    | true => rfl
    | false => exact gT_map hj r i
theorem gB_map {g : Blk → Blk} (hj : g .fresh = .fresh) : ∀ (l : List (Nat × Blk)) (i : Nat), gB (l.map fun p => (p.1, g p.2)) i = g (gB l i)
  | [], i => hj.symm
  | (j, x) :: r, i => by
    rw [List.map_cons, gB_cons, gB_cons]
    split
    · rfl
    · exact gB_map hj r i
theorem ac_frz (b : Nat) {e sz : Nat} {xs : List AV} (h : ACont E nt ⟨tm.map fun p => (p.1, mp4 (fzL b sz xs) p.2), (b, .gone) :: bk.map fun p => (p.1, mpB (fzL b sz xs) p.2)⟩ K) (hb : gB bk b = .row e sz xs := by rfl) : ACont E nt ⟨tm, bk⟩ K := by
  intro a w ⟨ρ, Zn, hs⟩
  have hg : ∀ i, gB ((b, .gone) :: bk.map fun p => (p.1, mpB (fzL b sz xs) p.2)) i = if i = b then .gone else mpB (fzL b sz xs) (gB bk i) := fun i => by rw [gB_cons, gB_map rfl]
  have hblk := hs.blk b
  rw [hb] at hblk
  have hlive : live (gB bk b) = true := by rw [hb]; rfl
  have mz : ∀ z k, fz E Zn z k → fz E (fun k => Zn k ∨ Own ρ (gB bk) b k) z k := fun z k hz => by
    cases z with
    | o => exact hz.elim (fun hz => .inl hz) (fun hz => .inr (.inl hz))
    | n => exact .inl hz
    | u => exact hz
  have nf : ∀ i, gB bk i ≠ .fresh → gB ((b, .gone) :: bk.map fun p => (p.1, mpB (fzL b sz xs) p.2)) i ≠ .fresh := fun i hi => by
    rw [hg]
    split
    · simp
    · exact mpB_fresh hi
  obtain ⟨ω, d⟩ := hs.deep
  have own' : ∀ i k, OwnD ρ ω (gB ((b, .gone) :: bk.map fun p => (p.1, mpB (fzL b sz xs) p.2))) i k → i ≠ b ∧ OwnD ρ ω (gB bk) i k := fun i k ho => by
    have h1 := ho.1
    have h2 := ho.2
    have hib : i ≠ b := fun e => by subst e; rw [hg, if_pos rfl] at h1; cases h1
    rw [hg, if_neg hib] at h1 h2
    exact ⟨hib, mpB_live h1, h2.imp id fun h => ⟨mpB_isD h.1, h.2⟩⟩
  have lf : Lf (fz E Zn) (fz E (fun k => Zn k ∨ Own ρ (gB bk) b k)) w ρ ρ (gB bk) (gB ((b, .gone) :: bk.map fun p => (p.1, mpB (fzL b sz xs) p.2))) (fzL b sz xs) := ⟨fun x u hx => by
    cases x with
    | row c =>
      show RepC0 _ _ _ _ (match Nat.beq c b with | true => AV.sl .n sz xs | false => .row c) u
      cases he : Nat.beq c b with
      | false => exact ⟨nf c hx.1, hx.2⟩
      | true =>
        have := beq_t he
        subst this
        rw [hx.2.1]
        exact row_sl (z := .n) hblk (fun k hk => .inl hk) (fun k hk => .inr ⟨hlive, hk⟩)
    | sub c s lo n =>
      obtain ⟨h1, A, N, cc, h2, h3, rfl⟩ := hx
      show RepC0 _ _ _ _ (match Nat.beq c b with | true => (match Nat.beq s sz with | true => AV.sl .n sz ((xs.drop lo).take n) | false => .junk) | false => .sub c s lo n) _
      cases he : Nat.beq c b with
      | false => exact ⟨nf c h1, A, N, cc, h2, h3, rfl⟩
      | true =>
        have := beq_t he
        subst this
        cases hz : Nat.beq s sz with
        | false => rfl
        | true =>
          have := beq_t hz
          subst this
          rw [h2] at hblk
          exact sub_sl (z := .n) hblk h3 (fun k hk => .inl hk) (fun k hk => .inr ⟨hlive, by rw [h2]; exact hk⟩)
    | elp c s i j =>
      obtain ⟨h1, g, n, cc, h2, rfl⟩ := hx
      show RepC0 _ _ _ _ (match Nat.beq c b with | true => AV.junk | false => .elp c s i j) _
      cases he : Nat.beq c b with
      | false => exact ⟨nf c h1, g, n, cc, h2, rfl⟩
      | true => rfl
    | box c o => exact ⟨nf c hx.1, hx.2⟩
    | sl z sz xs => exact RepV.move hx (fun _ _ => rfl) (mz z)
    | rp z x j =>
      obtain ⟨ad, f, h1, h2, h3⟩ := hx
      exact ⟨ad, f, h1, mz _ _ h2, fun i lv hi => ⟨(h3 i lv hi).1, RepV.move (h3 i lv hi).2 (fun _ _ => rfl) (mz z)⟩⟩
    | junk => exact hx
    | lit v => exact hx
    | agg l => exact hx.elim
    | tup l => exact hx.elim
    | fn f c => exact hx.elim, rfl, fun _ => rfl⟩
  refine h a w ⟨ρ, fun k => Zn k ∨ Own ρ (gB bk) b k, ⟨hs.os, hs.tape, hs.output, hs.size, hs.z0, hs.keep, fun k hk => .inl (hs.zi k hk), hs.zy, fun k hk => ?_, fun i v hv => ⟨nf i (hs.fix i v hv).1, (hs.fix i v hv).2⟩, fun i => ?_, ⟨ω, fun i op ds' e' sz' xs' hbk => ?_, fun i hbk => ?_, fun i k ho => d.lt i k (own' i k ho).2, fun i k ho => ?_, fun i i' k ho ho' => d.sep i i' k (own' i k ho).2 (own' i' k ho').2⟩, hs.defers, hs.ntmps, fun i => ?_⟩⟩
  · rcases hk with hk | hk
    · exact hs.zn k hk
    · exact ⟨hs.own_lt hk, .inr (hs.out b k hk).1⟩
  · rw [hg]
    split
    · trivial
    · have := hs.blk i
      cases hx : gB bk i with
      | box t l =>
        rw [hx] at this
        obtain ⟨g, cs, h1, h2, h3⟩ := this
        exact ⟨g, cs, h1, h2, Fa.map_left.2 (h3.imp fun _ _ h => lf2 lf h)⟩
      | row e' sz' xs' =>
        rw [hx] at this
        exact RowOk.move this (fun k hk => ⟨rfl, .inl hk⟩) (fun _ _ => rfl)
      | drow op ds' e' sz' xs' => cases op <;> trivial
      | _ => trivial
  · rw [hg] at hbk
    split at hbk
    · cases hbk
    · obtain ⟨rfl, h2⟩ := mpB_drow hbk
      exact (d.row i _ _ _ _ _ h2).closed (fun k hk => .inl hk)
  · rw [hg] at hbk
    split at hbk
    · cases hbk
    · exact d.tree i (mpB_isD hbk)
  · obtain ⟨hib, ho'⟩ := own' i k ho
    refine ⟨(d.out i k ho').1, fun hz => ?_⟩
    rcases hz with hz | hz
    · exact (d.out i k ho').2 hz
    · exact hib (d.sep i b k ho' hz.deep)
  · show RepT _ _ _ _ (gT (tm.map fun p => (p.1, mp4 (fzL b sz xs) p.2)) i) _
    rw [gT_map rfl]
    exact lf4 lf (hs.tmp i)
end
end Go.Proofs.YtahmbcgolnplgaaDoorA
