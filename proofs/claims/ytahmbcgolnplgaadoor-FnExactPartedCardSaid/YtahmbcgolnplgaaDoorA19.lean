/- The abstract machine, nineteenth part: skipped guards, structs compared, parts of own rows, frozen results. No claim lies here. -/
import Derived.Test.YtahmbcgolnplgaaDoorA18
import Derived.Laws.StructEq
set_option linter.unusedVariables false
set_option linter.unusedSimpArgs false
namespace Go.Proofs.YtahmbcgolnplgaaDoorA
open Go
section
variable {P : Program} {ops : Array Oper} {Q : Exit → Act → World → Prop} {E : Env} {nt : Nat} {s s0 : S}
/-- A skipped operation leaves 'undef'. -/
theorem snd_undef {o og : Oper} {i g d : Nat} {want : Bool} {v : Value} {od : Option Nat} (ho : ops[i]? = some o) (hg : o.guard = some (g, want)) (hog : ops[g]? = some og) (hd : og.dst = some d) (hlt : Nat.blt d nt = true) (hb : gT s.tm d = .lit v) (hne : v ≠ .bool want) (hod : o.dst = od) (hlt' : ∀ e, od = some e → Nat.blt e nt = true) : Snd P ops Q E nt i s ⟨od, .lit undef, []⟩ [d] [] := by
  intro tm bk hag K a w hr hK
  obtain ⟨ρ, Zn, hs⟩ := hr
  have hy : ((yielded ops a.tmps g) == some want) = false := by
    have h4 := hs.tmp d
    rw [hag.1 d List.mem_cons_self, hb] at h4
    have h5 := rep_lit h4
    have hd' : d < a.tmps.size := by rw [hs.ntmps]; exact Nat.blt_eq ▸ hlt
    unfold yielded
    rw [hog]
    simp only [Option.bind_some, hd]
    have : a.tmps[d]? = some v := by
      rw [Array.getElem?_eq_getElem hd']
      unfold Act.eval at h5
      simp only [Array.getD_eq_getD_getElem?, Array.getElem?_eq_getElem hd', Option.getD_some] at h5
      rw [h5]
    rw [this]
    cases v with
    | bool b => simp only []; cases b <;> cases want <;> first | rfl | exact absurd rfl hne
    | _ => rfl
  unfold wpOp
  simp only [ho]
  rw [if_neg (by simp [Region.wanted, hg, hy])]
  refine hK _ _ ⟨ρ, Zn, ?_⟩
  rw [upF_nil]
  cases od with
  | none => rw [hod]; exact hs
  | some e => rw [hod]; exact hs.put (hlt' e rfl) (.inr (.inl rfl))
end
section
variable {P : Program} {ops : Array Oper} {Q : Exit → Act → World → Prop} {E : Env} {nt : Nat} {s0 : S} {tm : List (Nat × AV)} {bk : List (Nat × Blk)} {todo : List Oper} {o : Oper} {ns : List Nm} {G : Prop}
theorem neT {t want : Bool} (h : t ≠ want) : Value.bool t ≠ .bool want := fun e => h (by injection e)
/-- What its guard does not want; what it leaves matters. -/
theorem ku {d g dg : Nat} {want : Bool} {v : Value} {og : Oper} (hne : v ≠ .bool want) (h : Wk P ops Q E nt s0 todo ⟨(d, .lit undef) :: tm, bk⟩ (⟨some d, [], [dg], []⟩ :: ns) G) (h0 : o.guard = some (g, want) := by rfl) (h1 : ops[g]? = some og := by rfl) (h2 : og.dst = some dg := by rfl) (h3 : Nat.blt dg nt = true := by rfl) (h4 : gT tm dg = .lit v := by rfl) (h5 : o.dst = some d := by rfl) (h6 : Nat.blt d nt = true := by rfl) : Wk P ops Q E nt s0 (o :: todo) ⟨tm, bk⟩ ns G :=
  wk_step ⟨some d, .lit undef, []⟩ [dg] [] (fun i ho => snd_undef (od := some d) ho h0 h1 h2 h3 h4 hne h5 (fun e he => by injection he with he; rw [← he]; exact h6)) h
theorem ku0 {g dg : Nat} {want : Bool} {v : Value} {og : Oper} (hne : v ≠ .bool want) (h : Wk P ops Q E nt s0 todo ⟨tm, bk⟩ (⟨none, [], [dg], []⟩ :: ns) G) (h0 : o.guard = some (g, want) := by rfl) (h1 : ops[g]? = some og := by rfl) (h2 : og.dst = some dg := by rfl) (h3 : Nat.blt dg nt = true := by rfl) (h4 : gT tm dg = .lit v := by rfl) (h5 : o.dst = none := by rfl) : Wk P ops Q E nt s0 (o :: todo) ⟨tm, bk⟩ ns G :=
  wk_step ⟨none, .lit undef, []⟩ [dg] [] (fun i ho => snd_undef (od := none) ho h0 h1 h2 h3 h4 hne h5 (fun e he => by cases he)) h
theorem neU {want : Bool} : undef ≠ .bool want := fun e => by cases e
end

/-! Structs compared. -/
section
variable {P : Program} {d : Nat} {xs ys : Array Value} {f : Field} {fs : List Field} {a b : Value} {r s : Bool} {w : World}
theorem eqf_last (hn : (f.name == "_") = false) (ha : (part f.type xs f.offset).run P w = .ok a w) (hb : (part f.type ys f.offset).run P w = .ok b w) (he : (Op.equalIn d f.type a b).run P w = .ok r w) : (Op.eqFields d xs ys [f]).run P w = .ok r w := by
  have hn' : f.name ≠ "_" := by simpa using hn
  simp only [Op.eqFields, if_pos hn', Sem.run_bind, ha, hb, he, Result.andThen_ok]
  cases r <;> simp
theorem eqf_cons (hn : (f.name == "_") = false) (ha : (part f.type xs f.offset).run P w = .ok a w) (hb : (part f.type ys f.offset).run P w = .ok b w) (he : (Op.equalIn d f.type a b).run P w = .ok r w) (hr : (Op.eqFields d xs ys fs).run P w = .ok s w) : (Op.eqFields d xs ys (f :: fs)).run P w = .ok (r && s) w := by
  have hn' : f.name ≠ "_" := by simpa using hn
  rw [Op.eqFields]
  simp only [if_pos hn', Sem.run_bind, ha, hb, he, Result.andThen_ok]
  cases r
  · simp
  · simpa using hr
theorem eqA_of {t : TypeId} {fs : Array Field} (hu : P.underlying t = some (.struct fs)) (hp : P.stoodInHeld t = false) (h : (Op.eqFields d xs ys fs.toList).run P w = .ok r w) : (Op.equalIn (d + 1) t (.agg xs) (.agg ys)).run P w = .ok r w := by
  have hf : P.fieldsOf t = fs := by simp [Program.fieldsOf, hu]
  rw [run_equalIn_struct (P := P) w d t xs ys (by rw [hf]; exact hu) hp, hf]
  exact h
end
section
variable {P : Program} {E : Env} {nt : Nat} {s : S} {o : Oper} {d : Nat}
theorem eqS {T T' : TypeId} {x y : Operand} {us vs : List Value} {l m : List AV} {r : Bool} (h : ∀ w, (Op.equalIn 10000 T (.agg us.toArray) (.agg vs.toArray)).run P w = .ok r w) (hop : o.op = .binOp .eql T x y T' := by rfl) (hx : opd s x = .agg l := by rfl) (hy : opd s y = .agg m := by rfl) (hl : l = us.map .lit := by rfl) (hm : m = vs.map .lit := by rfl) (hg : P.eqGuardType P.depth T = false := by kernel_rfl) (hd : o.dst = some d := by rfl) (hlt : Nat.blt d nt = true := by rfl) : Okv P E nt o s ⟨some d, .lit (.bool r), []⟩ (lkO x ++ lkO y) [] :=
  r_binA hop hd hlt (hl ▸ hx) (hm ▸ hy) (fun w => by rw [Sem.run_bind, run_eqGuard_agg w .eql T x y _ _ hg, Result.andThen_ok, run_eql_struct, h]; rfl)
theorem neS {T T' : TypeId} {x y : Operand} {us vs : List Value} {l m : List AV} {r : Bool} (h : ∀ w, (Op.equalIn 10000 T (.agg us.toArray) (.agg vs.toArray)).run P w = .ok r w) (hop : o.op = .binOp .neq T x y T' := by rfl) (hx : opd s x = .agg l := by rfl) (hy : opd s y = .agg m := by rfl) (hl : l = us.map .lit := by rfl) (hm : m = vs.map .lit := by rfl) (hg : P.eqGuardType P.depth T = false := by kernel_rfl) (hd : o.dst = some d := by rfl) (hlt : Nat.blt d nt = true := by rfl) : Okv P E nt o s ⟨some d, .lit (.bool (!r)), []⟩ (lkO x ++ lkO y) [] :=
  r_binA hop hd hlt (hl ▸ hx) (hm ▸ hy) (fun w => by rw [Sem.run_bind, run_eqGuard_agg w .neq T x y _ _ hg, Result.andThen_ok, run_neq_struct, h]; rfl)
/-! Parts of own rows. -/
section
variable {α : Type} {f : α → AV} {xs : List α}
theorem mapD {a : Nat} : ((xs.map f).drop a).take (xs.length - a) = (xs.drop a).map f := by rw [← List.map_drop, ← List.map_take, List.take_of_length_le (by simp)]
theorem mapT {n : Nat} : ((xs.map f).drop 0).take n = (xs.take n).map f := by rw [List.drop_zero, ← List.map_take]
theorem mapDT {a b : Nat} : ((xs.map f).drop a).take (b - a) = ((xs.take b).drop a).map f := by rw [← List.map_drop, ← List.map_take, List.drop_take]
theorem nwS {sz b e lo n : Nat} {ys u : List AV} (hb : gB s.bk b = .row e sz u) (h : (u.drop lo).take n = ys) : Nw s sz (.sub b sz lo n) ys [b] := h ▸ .sub hb
theorem r_slr {T b e sz : Nat} {x : Operand} {lo hi : Option Operand} {u : List AV} (l n : Nat) (vl vh : Option Value) (hop : o.op = .slice T x lo hi none) (hd : o.dst = some d) (hlt : Nat.blt d nt = true) (hx : opd s x = .row b) (hb : gB s.bk b = .row e sz u)
    (hl : ∀ y, lo = some y → ∃ v, vl = some v ∧ opd s y = .lit v) (hl0 : lo = none → vl = none) (hh : ∀ y, hi = some y → ∃ v, vh = some v ∧ opd s y = .lit v) (hh0 : hi = none → vh = none) (h2 : l + n ≤ u.length)
    (hr : ∀ A c w, u.length ≤ c → (Instr.sliceAt T (.slice A u.length c) vl vh none).run P w = .ok (sliced A l (l + n) c sz) w) : Okv P E nt o s ⟨some d, .sub b sz l n, []⟩ (lkO x ++ (lo.toList.flatMap lkO ++ hi.toList.flatMap lkO)) [b] :=
  okv_val hd hlt fun tm bk ρ Zn a w hag hs => by
    have h3 := St.opd (s := s) hs x (fun t ht => hag.1 t (List.mem_append_left _ ht))
    rw [hx] at h3
    have e1 : lo.map a.eval = vl := by
      cases lo with
      | none => rw [hl0 rfl]; rfl
      | some y =>
        obtain ⟨v, rfl, hv⟩ := hl y rfl
        have h2 := St.opd (s := s) hs y (fun t ht => hag.1 t (List.mem_append_right _ (List.mem_append_left _ (List.mem_flatMap.2 ⟨y, List.mem_singleton.2 rfl, ht⟩))))
        rw [hv] at h2
        rw [Option.map_some, rep_lit h2]
    have e2 : hi.map a.eval = vh := by
      cases hi with
      | none => rw [hh0 rfl]; rfl
      | some y =>
        obtain ⟨v, rfl, hv⟩ := hh y rfl
        have h2 := St.opd (s := s) hs y (fun t ht => hag.1 t (List.mem_append_right _ (List.mem_append_right _ (List.mem_flatMap.2 ⟨y, List.mem_singleton.2 rfl, ht⟩))))
        rw [hv] at h2
        rw [Option.map_some, rep_lit h2]
    obtain ⟨hf, h4, _⟩ := rep_C00 h3 rfl
    have hblk := hs.blk b
    rw [hag.2 b (List.mem_singleton.2 rfl), hb] at hblk
    obtain ⟨A, c, h6, h7, _⟩ := row_form hblk
    refine ⟨_, ?_, rep_of_C (.inl ⟨hf, A, u.length, c, h6, h2, rfl⟩)⟩
    unfold execOp
    simp only [hop]
    rw [Sem.run_bind, h4, h6, e1, e2, Option.map_none, hr _ _ _ h7]
    rfl
theorem srH {T b e' sz : Nat} {x y : Operand} {k : IntKind} {h : Int} (e : Nat) (h0 : 0 ≤ h) (h1 : h ≤ (xs.length : Int)) (hop : o.op = .slice T x none (some y) none := by rfl) (hx : opd s x = .row b := by rfl) (hb : gB s.bk b = .row e' sz (xs.map f) := by rfl) (hy : opd s y = .lit (.int k h) := by rfl) (hT : sliceT P T e sz = true := by kernel_rfl) (hd : o.dst = some d := by rfl) (hlt : Nat.blt d nt = true := by rfl) : Okv P E nt o s ⟨some d, .sub b sz 0 h.toNat, []⟩ (lkO x ++ lkO y) [b] := by
  obtain ⟨e1, e2⟩ := elem_of hT
  have hl : (xs.map f).length = xs.length := List.length_map ..
  have := r_slr (P := P) (E := E) (nt := nt) (s := s) 0 h.toNat none (some (.int k h)) hop hd hlt hx hb (fun _ h => by cases h) (fun _ => rfl) (fun y' h => by cases h; exact ⟨_, rfl, hy⟩) (fun h => by cases h) (by omega) (fun A c w hc => by
    rw [run_sliceAt_slice w T _ _ _ _ e1, run_slice_h w T A _ _ e1 k h h0 (by omega), e2, Nat.zero_add]; rfl)
  simpa using this
theorem srL {T b e' sz : Nat} {x y : Operand} {k : IntKind} {l : Int} (e : Nat) (h0 : 0 ≤ l) (h1 : l ≤ (xs.length : Int)) (hop : o.op = .slice T x (some y) none none := by rfl) (hx : opd s x = .row b := by rfl) (hb : gB s.bk b = .row e' sz (xs.map f) := by rfl) (hy : opd s y = .lit (.int k l) := by rfl) (hT : sliceT P T e sz = true := by kernel_rfl) (hd : o.dst = some d := by rfl) (hlt : Nat.blt d nt = true := by rfl) : Okv P E nt o s ⟨some d, .sub b sz l.toNat (xs.length - l.toNat), []⟩ (lkO x ++ lkO y) [b] := by
  obtain ⟨e1, e2⟩ := elem_of hT
  have hl : (xs.map f).length = xs.length := List.length_map ..
  have := r_slr (P := P) (E := E) (nt := nt) (s := s) l.toNat (xs.length - l.toNat) (some (.int k l)) none hop hd hlt hx hb (fun y' h => by cases h; exact ⟨_, rfl, hy⟩) (fun h => by cases h) (fun _ h => by cases h) (fun _ => rfl) (by omega) (fun A c w hc => by
    rw [run_sliceAt_slice w T _ _ _ _ e1, run_slice_l w T A _ _ e1 k l h0 (by omega), e2, show l.toNat + (xs.length - l.toNat) = (xs.map f).length by omega]; rfl)
  simpa using this
theorem srLH {T b e' sz : Nat} {x y y2 : Operand} {k k2 : IntKind} {l h : Int} (e : Nat) (h0 : 0 ≤ l) (h1 : l ≤ h) (h2 : h ≤ (xs.length : Int)) (hop : o.op = .slice T x (some y) (some y2) none := by rfl) (hx : opd s x = .row b := by rfl) (hb : gB s.bk b = .row e' sz (xs.map f) := by rfl) (hy : opd s y = .lit (.int k l) := by rfl) (hy2 : opd s y2 = .lit (.int k2 h) := by rfl) (hT : sliceT P T e sz = true := by kernel_rfl) (hd : o.dst = some d := by rfl) (hlt : Nat.blt d nt = true := by rfl) : Okv P E nt o s ⟨some d, .sub b sz l.toNat (h.toNat - l.toNat), []⟩ (lkO x ++ (lkO y ++ lkO y2)) [b] := by
  obtain ⟨e1, e2⟩ := elem_of hT
  have hl : (xs.map f).length = xs.length := List.length_map ..
  have := r_slr (P := P) (E := E) (nt := nt) (s := s) l.toNat (h.toNat - l.toNat) (some (.int k l)) (some (.int k2 h)) hop hd hlt hx hb (fun y' h => by cases h; exact ⟨_, rfl, hy⟩) (fun h => by cases h) (fun y' h => by cases h; exact ⟨_, rfl, hy2⟩) (fun h => by cases h) (by omega) (fun A c w hc => by
    rw [run_sliceAt_slice w T _ _ _ _ e1, run_slice_lh w T A _ _ e1 k k2 l h h0 h1 (by omega), e2, show l.toNat + (h.toNat - l.toNat) = h.toNat by omega]; rfl)
  simpa using this
end
end

/-! A row's front may stand for the row. -/
section
variable {P : Program} {E : Env} {nt : Nat} {tm : List (Nat × AV)} {bk : List (Nat × Blk)} {K : Act → World → Prop}
theorem row_front {Zn : Nat → Prop} {w : World} {e sz n : Nat} {A : Option Addr} {N c : Nat} {xs : List AV} (h : RowOk Zn w e sz (.slice A N c) xs) (hn : n ≤ N) : RowOk Zn w e sz (sliced A 0 (0 + n) c sz) (xs.take n) ∧ refB (sliced A 0 (0 + n) c sz) = refB (.slice A N c) ∧ (sliced A 0 (0 + n) c sz).oneCell' = true := by
  have e0 : sliced A 0 (0 + n) c sz = .slice A n c := by
    unfold sliced
    rw [Nat.zero_add, Nat.zero_mul, Nat.sub_zero, Nat.sub_zero]
    cases A with
    | none => split <;> rfl
    | some a => split <;> simp [Addr.add]
  rw [e0]
  obtain ⟨h0, inner, ho, hl, hr⟩ := h
  have hlen : N = xs.length := by
    rcases ho.2 with ⟨e1, e2⟩ | ⟨g, cap, cur, e1, _⟩
    · injection e1 with _ e3 _; omega
    · injection e1 with _ e3 _
  refine ⟨⟨h0, inner.take (n * sz), ⟨?_, ?_⟩, fun j x hj => ?_, fun j x i lv hj hi => ?_⟩, ?_, rfl⟩
  · rw [List.length_take, List.length_take, ho.1, Nat.min_eq_left (Nat.mul_le_mul_right _ (by omega)), Nat.min_eq_left (by omega)]
  · rcases ho.2 with ⟨e1, e2⟩ | ⟨g, cap, cur, e1, h1, h2, h3, h4, h5, h6⟩
    · injection e1 with e3 e4 e5
      subst e3; subst e4; subst e5
      exact .inl ⟨by rw [Nat.le_zero.1 hn], by simp; omega⟩
    · injection e1 with e3 e4 e5
      subst e3; subst e5
      have e6 : (xs.take n).length = n := by simp; omega
      refine .inr ⟨g, c, cur, by rw [e6], h1, h2, by rw [e6]; omega, h4, h5, ?_⟩
      rw [e6, ← h6, List.take_take, Nat.min_eq_left (Nat.mul_le_mul_right _ (by omega))]
  · rw [List.getElem?_take] at hj
    split at hj
    · exact hl j x hj
    · cases hj
  · rw [List.getElem?_take] at hj
    split at hj
    · rename_i hjn
      obtain ⟨u, hu, hv⟩ := hr j x i lv hj hi
      refine ⟨u, ?_, hv⟩
      have hil : i < sz := by rw [← hl j x hj]; exact (List.getElem?_eq_some_iff.1 hi).1
      rw [List.getElem?_take, if_pos]
      · exact hu
      · calc j * sz + i < j * sz + sz := by omega
          _ = (j + 1) * sz := by rw [Nat.add_mul, Nat.one_mul]
          _ ≤ n * sz := Nat.mul_le_mul_right _ hjn
    · cases hj
  · cases A with
    | none => rfl
    | some a => rfl
/-- Freed by the front: what the step asks, for a tmp or a box's cell. -/
theorem front_upd {ρ : Nat → Value} {Zn : Nat → Prop} {a : Act} {w : World} {b nb e sz n : Nat} {xs : List AV} {u : Value} {tm' : Nat → AV} {bk' : Nat → Blk} (hs : St E nt ρ Zn (gT tm) (gB bk) a w) (hb : gB bk b = .row e sz xs) (hnb : gB bk nb = .fresh) (hu : ∃ A N c, ρ b = .slice A N c ∧ 0 + n ≤ N ∧ u = sliced A 0 (0 + n) c sz) (V : Nat → Prop)
    (hV : ∀ i, V i → gB bk i ≠ .fresh ∧ live (gB bk i) = live (bk' i) ∧ bk' i ≠ .fresh ∧ i ≠ b)
    (hVD : ∀ i, V i → isD (gB bk i) = false ∧ isD (bk' i) = false) (hb' : ∀ i, ¬ V i → i ≠ b → i ≠ nb → bk' i = gB bk i) (hbb : bk' b = .gone) (hbn : bk' nb = .row e sz (xs.take n))
    (hVB : ∀ i, V i → Mv (fz E Zn) (fz E Zn) w w ρ (fun i => if i = nb then u else ρ i) (gB bk) bk' → BlkOk (fz E Zn) w (fun i => if i = nb then u else ρ i) bk' (ρ i) (bk' i))
    (ht : ∀ i : Nat, (tm' i = gT tm i) ∨ (Mv (fz E Zn) (fz E Zn) w w ρ (fun i => if i = nb then u else ρ i) (gB bk) bk' → RepT (fz E Zn) w (fun i => if i = nb then u else ρ i) bk' (tm' i) (a.eval (.tmp i)))) : St E nt (fun i => if i = nb then u else ρ i) Zn tm' bk' a w := by
  obtain ⟨A, N, c, h1, h2, rfl⟩ := hu
  have hne : b ≠ nb := fun e => by subst e; rw [hb] at hnb; cases hnb
  have hrow := hs.blk b
  rw [hb, h1] at hrow
  obtain ⟨f1, f2, f3⟩ := row_front hrow (by omega : n ≤ N)
  have ownb : ∀ k, refB (sliced A 0 (0 + n) c sz) = some k → Own ρ (gB bk) b k := fun k hk => ⟨by rw [hb]; rfl, by rw [h1, ← f2]; exact hk⟩
  have ownV : ∀ i k, V i → Own (fun i => if i = nb then sliced A 0 (0 + n) c sz else ρ i) bk' i k → Own ρ (gB bk) i k := fun i k hi ho => by
    obtain ⟨v1, v2, v3, v4⟩ := hV i hi
    have hin : i ≠ nb := fun e => by subst e; exact v1 hnb
    refine ⟨by rw [v2]; exact ho.1, ?_⟩
    have := ho.2
    simpa [hin] using this
  have ownn : ∀ k, Own (fun i => if i = nb then sliced A 0 (0 + n) c sz else ρ i) bk' nb k → Own ρ (gB bk) b k := fun k ho => ownb k (by have := ho.2; simpa using this)
  have owng : ∀ k, ¬ Own (fun i => if i = nb then sliced A 0 (0 + n) c sz else ρ i) bk' b k := fun k ho => by have := ho.1; rw [hbb] at this; cases this
  refine hs.upd (fun i => V i ∨ i = b ∨ i = nb) rfl rfl rfl (Nat.le_refl _) (fun _ _ _ => rfl) (fun i hi => if_neg fun e => hi (.inr (.inr e))) (fun i hi => hb' i (fun h => hi (.inl h)) (fun h => hi (.inr (.inl h))) (fun h => hi (.inr (.inr h)))) (fun i hi hf => ?_) (fun _ h => h) (fun _ h => .inl h) (fun i hi m => ?_) (fun i k hi ho => ?_) (fun i i' k hi hi' ho ho' => ?_) rfl rfl (fun i => ?_) (fun i hi => by rcases hi with hi | rfl | rfl; exact hVD i hi; exact ⟨by rw [hb]; rfl, by rw [hbb]; rfl⟩; exact ⟨by rw [hnb]; rfl, by rw [hbn]; rfl⟩)
  · rcases hi with hi | rfl | rfl
    · exact ⟨(hV i hi).2.2.1, if_neg fun e => by subst e; exact hf hnb⟩
    · exact ⟨by rw [hbb]; simp, if_neg hne⟩
    · exact absurd hnb hf
  · rcases hi with hi | rfl | rfl
    · rw [if_neg fun e => by subst e; exact (hV i hi).1 hnb]; exact hVB i hi m
    · rw [hbb]; trivial
    · rw [hbn, if_pos rfl]; exact f1
  · rcases hi with hi | rfl | rfl
    · have := ownV i k hi ho; exact ⟨.inr ⟨i, .inl hi, this⟩, (hs.out i k this).2⟩
    · exact absurd ho (owng k)
    · have := ownn k ho; exact ⟨.inr ⟨b, .inr (.inl rfl), this⟩, (hs.out b k this).2⟩
  · rcases hi with hi | rfl | rfl <;> rcases hi' with hi' | rfl | rfl
    · exact hs.sep _ _ k (ownV i k hi ho) (ownV i' k hi' ho')
    · exact absurd ho' (owng k)
    · exact absurd (hs.sep _ _ k (ownV i k hi ho) (ownn k ho')) (hV i hi).2.2.2
    · exact absurd ho (owng k)
    · rfl
    · exact absurd ho (owng k)
    · exact absurd (hs.sep _ _ k (ownV i' k hi' ho') (ownn k ho)) (hV i' hi').2.2.2
    · exact absurd ho' (owng k)
    · rfl
  · rcases ht i with h | h
    · exact .inl ⟨h, rfl⟩
    · exact .inr h
theorem ac_pre {b e sz n : Nat} {xs : List AV} (t nb : Nat) (ys : List AV) (h : ACont E nt ⟨(t, .row nb) :: tm, (b, .gone) :: (nb, .row e sz ys) :: bk⟩ K) (hy : xs.take n = ys) (ht : gT tm t = .sub b sz 0 n := by rfl) (hb : gB bk b = .row e sz xs := by rfl) (hnb : gB bk nb = .fresh := by rfl) : ACont E nt ⟨tm, bk⟩ K := by
  subst hy
  intro a w ⟨ρ, Zn, hs⟩
  have h1 := hs.tmp t
  rw [ht] at h1
  obtain ⟨hf, hu⟩ := rep_C00 h1 rfl
  have hne : b ≠ nb := fun e => by subst e; rw [hb] at hnb; cases hnb
  refine h a w ⟨fun i => if i = nb then a.eval (.tmp t) else ρ i, Zn, front_upd hs hb hnb hu (fun _ => False) (fun _ h => h.elim) (fun _ h => h.elim) (fun i _ h1 h2 => by rw [gB_cons, if_neg h1, gB_cons, if_neg h2]) (by rw [gB_cons, if_pos rfl]) (by rw [gB_cons, if_neg (Ne.symm hne), gB_cons, if_pos rfl]) (fun _ h => h.elim) (fun i => ?_)⟩
  by_cases hi : i = t
  · right
    intro m
    subst hi
    show RepT _ _ _ _ (gT ((i, .row nb) :: tm) i) _
    rw [gT_cons, if_pos rfl]
    obtain ⟨A, N, c, h5, h6, h7⟩ := hu
    refine rep_of_C (.inl ⟨by rw [gB_cons, if_neg (Ne.symm hne), gB_cons, if_pos rfl]; simp, by simp, ?_⟩)
    rw [h7]; rfl
  · left; show gT ((t, .row nb) :: tm) i = _; rw [gT_cons, if_neg hi]
theorem ac_preB {b e sz n tb : Nat} {xs cells : List AV} (q j nb : Nat) (ys cells' : List AV) (h : ACont E nt ⟨tm, (q, .box tb cells') :: (b, .gone) :: (nb, .row e sz ys) :: bk⟩ K) (hy : xs.take n = ys) (hq : gB bk q = .box tb cells := by rfl) (hj : cells[j]? = some (.sub b sz 0 n) := by rfl) (hc : cells.set j (.row nb) = cells' := by rfl) (hb : gB bk b = .row e sz xs := by rfl) (hnb : gB bk nb = .fresh := by rfl) : ACont E nt ⟨tm, bk⟩ K := by
  subst hy
  intro a w ⟨ρ, Zn, hs⟩
  have hblk := hs.blk q
  rw [hq] at hblk
  obtain ⟨g, cs, h2, h3, h4⟩ := hblk
  obtain ⟨u, hv, hr⟩ := h4.get hj
  have hr0 : RepC0 (fz E Zn) w ρ (gB bk) (.sub b sz 0 n) u := by
    rcases hr with hr | ⟨_, _, _, hr, _⟩
    · exact hr
    · cases hr
  obtain ⟨hf, hu⟩ := hr0
  have hne : b ≠ nb := fun e => by subst e; rw [hb] at hnb; cases hnb
  have hqb : q ≠ b := fun e => by subst e; rw [hb] at hq; cases hq
  have hqn : q ≠ nb := fun e => by subst e; rw [hq] at hnb; cases hnb
  have hg : ∀ i, gB ((q, .box tb cells') :: (b, .gone) :: (nb, .row e sz (xs.take n)) :: bk) i = if i = q then .box tb cells' else if i = b then .gone else if i = nb then .row e sz (xs.take n) else gB bk i := fun i => by rw [gB_cons, gB_cons, gB_cons]
  refine h a w ⟨fun i => if i = nb then u else ρ i, Zn, front_upd hs hb hnb hu (fun i => i = q) (fun i hi => ?_) (fun i hi => by subst hi; rw [hg, if_pos rfl, hq]; exact ⟨rfl, rfl⟩) (fun i h1 h2 h3 => by rw [hg, if_neg h1, if_neg h2, if_neg h3]) (by rw [hg, if_neg (Ne.symm hqb), if_pos rfl]) (by rw [hg, if_neg (Ne.symm hqn), if_neg (Ne.symm hne), if_pos rfl]) (fun i hi m => ?_) (fun i => .inl rfl)⟩
  · subst hi
    rw [hg, if_pos rfl, hq]
    exact ⟨by simp, rfl, by simp, hqb⟩
  · subst hi
    rw [hg, if_pos rfl]
    refine ⟨g, cs, h2, h3, ?_⟩
    obtain ⟨A, N, c, h5, h6, h7⟩ := hu
    have h8 := (h4.imp fun _ _ h => RepC.move m h).set j (a := .row nb) (b := u) (.inl ⟨by rw [hg, if_neg (Ne.symm hqn), if_neg (Ne.symm hne), if_pos rfl]; simp, by simp, by rw [h7]; rfl⟩)
    rw [hc] at h8
    have e : cs.set j u = cs := by
      apply List.ext_getElem?
      intro k
      rw [List.getElem?_set]
      split
      · rename_i e; subst e
        rw [hv]
        have := (List.getElem?_eq_some_iff.1 hv).1
        simp [this]
      · rfl
    rwa [e] at h8
end

/-! Results that are frozen: rows that nobody writes to any more. -/
def frz (post : List (Nat × Blk)) : AV → AV
  | .row b => match gB post b with
    | .row _ sz xs => .sl .n sz xs
    | _ => .junk
  | .box _ _ => .junk
  | .sub _ _ _ _ => .junk
  | .elp _ _ _ _ => .junk
  | x => x
def noBox : AV → Bool
  | .box _ _ | .sub _ _ _ _ | .elp _ _ _ _ => false
  | _ => true
section
variable {Zf Zf' : Fl → Nat → Prop} {w : World} {ρ ρ' : Nat → Value} {bk bk' : Nat → Blk} {g : AV → AV}
structure Lf (Zf Zf' : Fl → Nat → Prop) (w : World) (ρ ρ' : Nat → Value) (bk bk' : Nat → Blk) (g : AV → AV) : Prop where
  c0 : ∀ x v, RepC0 Zf w ρ bk x v → RepC0 Zf' w ρ' bk' (g x) v
  junk : g .junk = .junk
  lit : ∀ v, g (.lit v) = .lit v
theorem lf1 (H : Lf Zf Zf' w ρ ρ' bk bk' g) {x : AV} {v : Value} (h : RepA0 Zf w ρ bk x v) : RepA0 Zf' w ρ' bk' (mp1 g x) v := by
  rcases h with h | ⟨l, cs, rfl, rfl, h3⟩
  · have e : mp1 g x = g x := by cases x <;> first | rfl | exact h.elim
    rw [e]; exact .inl (H.c0 _ _ h)
  · exact .inr ⟨_, cs, rfl, rfl, Fa.map_left.2 (h3.imp fun _ _ h => H.c0 _ _ h)⟩
theorem lf2 (H : Lf Zf Zf' w ρ ρ' bk bk' g) {x : AV} {v : Value} (h : RepC Zf w ρ bk x v) : RepC Zf' w ρ' bk' (mp2 g x) v := by
  rcases h with h | ⟨f, l, cs, rfl, rfl, h3⟩
  · have e : mp2 g x = g x := by cases x <;> first | rfl | exact h.elim
    rw [e]; exact .inl (H.c0 _ _ h)
  · exact .inr ⟨f, _, cs, rfl, rfl, Fa.map_left.2 (h3.imp fun _ _ h => lf1 H h)⟩
theorem lf3 (H : Lf Zf Zf' w ρ ρ' bk bk' g) {x : AV} {v : Value} (h : RepA Zf w ρ bk x v) : RepA Zf' w ρ' bk' (mp3 g x) v := by
  rcases h with h | ⟨l, cs, rfl, rfl, h3⟩
  · have e : mp3 g x = mp2 g x := by
      cases x <;> first | rfl | (rcases h with h | ⟨_, _, _, h, _⟩; exact h.elim; cases h)
    rw [e]; exact .inl (lf2 H h)
  · exact .inr ⟨_, cs, rfl, rfl, Fa.map_left.2 (h3.imp fun _ _ h => lf2 H h)⟩
theorem lf4 (H : Lf Zf Zf' w ρ ρ' bk bk' g) {x : AV} {v : Value} (h : RepT Zf w ρ bk x v) : RepT Zf' w ρ' bk' (mp4 g x) v := by
  rcases h with rfl | rfl | h | ⟨l, cs, rfl, rfl, h3⟩
  · refine .inl ?_; show mp4 g .junk = .junk; exact H.junk
  · refine .inr (.inl ?_); show mp4 g (.lit v) = .lit v; exact H.lit v
  · have e : mp4 g x = mp3 g x := by
      cases x <;> first | rfl | (rcases h with h | ⟨_, _, h, _⟩; rcases h with h | ⟨_, _, _, h, _⟩; exact h.elim; cases h; cases h)
    rw [e]; exact .inr (.inr (.inl (lf3 H h)))
  · exact .inr (.inr (.inr ⟨_, cs, rfl, rfl, Fa.map_left.2 (h3.imp fun _ _ h => lf3 H h)⟩))
end
theorem ACalls.frz {P : Program} {f : FuncId} {args : List AV} {post : List (Nat × Blk)} {res : AV} (res' : AV) (h : ACalls P f [] args post res) (hr : mp4 (frz post) res = res' := by rfl) : ACalls P f [] args [] res' := by
  subst hr
  intro E ρ vs hp h0 hv
  refine (h E ρ vs hp h0 hv).mono ?_
  rintro e w' ⟨v, ρ', Zn, rfl, hs, hrep⟩
  have hsub : ∀ k, Zn k → Zn k ∨ ∃ b, Own ρ' (gB post) b k := fun k hk => .inl hk
  refine ⟨v, ρ', fun k => Zn k ∨ ∃ b, Own ρ' (gB post) b k, rfl, ⟨hs.os, hs.tape, hs.output, hs.size, hs.z0, hs.keep, fun k hk => .inl (hs.zi k hk), hs.zy, fun k hk => ?_, fun b v hb => absurd (h0 b v hb) (Nat.not_lt_zero _), fun _ => trivial, ⟨fun _ _ => none, fun b op ds e sz xs h => (by cases h), fun b h => (by cases h), fun b k ho => (by cases ho.1), fun b k ho => (by cases ho.1), fun b b' k ho _ => (by cases ho.1)⟩, rfl, rfl, fun _ => .inl rfl⟩, lf4 ⟨fun x u hx => ?_, rfl, fun _ => rfl⟩ hrep⟩
  · rcases hk with hk | ⟨b, ho⟩
    · exact hs.zn k hk
    · exact ⟨St.own_lt hs ho, .inr (hs.out b k ho).1⟩
  · have mz : ∀ z k, fz E Zn z k → fz E (fun k => Zn k ∨ ∃ b, Own ρ' (gB post) b k) z k := fun z k hz => by
      cases z with
      | o => exact hz.elim (fun hz => .inl hz) (fun hz => .inr (.inl hz))
      | n => exact .inl hz
      | u => exact hz
    cases x with
    | row b =>
      show RepC0 _ _ _ _ (match gB post b with | .row _ sz xs => AV.sl .n sz xs | _ => .junk) u
      obtain ⟨h1, h2, h3⟩ := hx
      have hb := hs.blk b
      cases hg : gB post b with
      | row e sz xs =>
        rw [hg] at hb
        rw [h2]
        exact row_sl (z := .n) hb (fun k hk => .inl hk) (fun k hk => .inr ⟨b, by rw [hg]; rfl, hk⟩)
      | _ => exact h3
    | box b o => obtain ⟨_, g, _, rfl⟩ := hx; rfl
    | sub b sz lo n => obtain ⟨_, A, N, c, _, _, rfl⟩ := hx; rfl
    | elp b sz i j => obtain ⟨_, g, n, c, _, rfl⟩ := hx; rfl
    | sl z sz xs => exact RepV.move hx (fun _ _ => rfl) (mz z)
    | rp z x j =>
      obtain ⟨ad, f, h1, h2, h3⟩ := hx
      exact ⟨ad, f, h1, mz _ _ h2, fun i lv hi => ⟨(h3 i lv hi).1, RepV.move (h3 i lv hi).2 (fun _ _ => rfl) (mz z)⟩⟩
    | junk => exact hx
    | lit v => exact hx
    | agg l => exact hx.elim
    | tup l => exact hx.elim
    | fn f c => exact hx.elim
end Go.Proofs.YtahmbcgolnplgaaDoorA
