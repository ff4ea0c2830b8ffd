/- The abstract machine, twenty-ninth part: deep rows: elements used up, fronts, clearing. No claim lies here. -/
import Derived.Test.YtahmbcgolnplgaaDoorA28
set_option linter.unusedVariables false
set_option linter.unusedSimpArgs false
namespace Go.Proofs.YtahmbcgolnplgaaDoorA
open Go Go.RowKit
/-- A row's elements, where those of a stretch are of no more use. -/
def deadL {α : Type} (f : α → AV) (sz : Nat) (x : List α) (lo hi : Nat) : List AV := x.mapIdx fun j v => if lo ≤ j ∧ j < hi then jk sz else f v
section
variable {α : Type} {f : α → AV} {sz lo hi : Nat} {x : List α}
theorem deadL_len : (deadL f sz x lo hi).length = x.length := List.length_mapIdx
theorem deadL_get {q : Nat} : (deadL f sz x lo hi)[q]? = (x[q]?).map fun v => if lo ≤ q ∧ q < hi then jk sz else f v := List.getElem?_mapIdx
theorem deadG {z : α} {i : Int} (h0 : 0 ≤ i) (h1 : i < (x.length : Int)) : (deadL f sz x lo i.toNat)[i.toNat]? = some (f (x.getD i.toNat z)) := by
  rw [deadL_get, List.getElem?_eq_getElem (by omega), List.getD_eq_getElem?_getD, List.getElem?_eq_getElem (by omega)]
  show some (if lo ≤ i.toNat ∧ i.toNat < i.toNat then _ else _) = _
  rw [if_neg (by omega)]; rfl
theorem deadX {z : α} {i : Int} (h0 : 0 ≤ i) (h1 : i < (x.length : Int)) : (deadL f sz x lo hi)[i.toNat]? = some (if lo ≤ i.toNat ∧ i.toNat < hi then jk sz else f (x.getD i.toNat z)) := by
  rw [deadL_get, List.getElem?_eq_getElem (by omega), List.getD_eq_getElem?_getD, List.getElem?_eq_getElem (by omega)]; rfl
theorem deadXl {c : Prop} [Decidable c] {y : α} {l : List AV} {X' : AV} (hf : (f y).leaves.length = sz) (hX : X'.leaves = l) : X'.leaves = (if c then jk sz else f y).leaves.take 0 ++ l ++ (if c then jk sz else f y).leaves.drop (0 + sz) := by
  have : (if c then jk sz else f y).leaves.drop (0 + sz) = [] := by
    refine List.drop_eq_nil_of_le ?_
    split
    · show (List.replicate sz AV.junk).length ≤ _; simp
    · omega
  rw [this, hX]; simp
theorem ltF {i : Int} (h : i < (x.length : Int)) : i < ((deadL f sz x lo hi).length : Int) := by rw [deadL_len]; exact h
theorem lenF : ((deadL f sz x lo hi).length : Int) = (x.length : Int) := by rw [deadL_len]
theorem lsF {n : Int} {j : Nat} {v : α} (h : ((deadL f sz x lo hi).length : Int) = n) : ((deadL f sz (x.set j v) lo hi).length : Int) = n := by rw [deadL_len, List.length_set]; rw [deadL_len] at h; exact h
theorem lsG {xs : List AV} {n : Int} {i : Nat} {X : AV} (h : (xs.length : Int) = n) : ((xs.set i X).length : Int) = n := by rw [List.length_set]; exact h
theorem setXF {X : AV} {i : Int} (h0 : 0 ≤ i) (h1 : i < (x.length : Int)) : ((deadL f sz x lo hi).set i.toNat X)[i.toNat]? = some X := List.getElem?_set_self (by rw [deadL_len]; omega)
theorem toN1 {i : Int} {n : Nat} (h0 : 0 ≤ i) (h1 : i < (n : Int)) (hn : n ≤ 9223372036854775807) : (wrap64 (i + 1)).toNat = i.toNat + 1 := by
  unfold wrap64; omega
/-- What a told row's elements must be outside the stretch. -/
def OutL (f : α → AV) (xs : List AV) (x : List α) (lo hi : Nat) : Prop := xs.length = x.length ∧ (x.length ≤ 9223372036854775807 → ∀ q, ¬ (lo ≤ q ∧ q < hi) → xs[q]? = (x.map f)[q]?)
theorem outM : OutL f (x.map f) x lo hi := ⟨List.length_map .., fun _ _ _ => rfl⟩
theorem outMS {i : Nat} {X : AV} (h : x.length ≤ 9223372036854775807 → lo ≤ i ∧ i < hi) : OutL f ((x.map f).set i X) x lo hi := ⟨by rw [List.length_set, List.length_map], fun hm q hq => by rw [List.getElem?_set_ne (fun e => by subst e; exact hq (h hm))]⟩
theorem outD {lo' hi' : Nat} (h : x.length ≤ 9223372036854775807 → lo' ≤ lo ∧ hi ≤ hi') : OutL f (deadL f sz x lo hi) x lo' hi' := ⟨deadL_len, fun hm q hq => by
  rw [deadL_get, List.getElem?_map]
  have := h hm
  congr 1
  funext v
  exact if_neg (by omega)⟩
theorem outDS {lo' hi' i : Nat} {X : AV} (h : x.length ≤ 9223372036854775807 → lo' ≤ lo ∧ hi ≤ hi' ∧ lo' ≤ i ∧ i < hi') : OutL f ((deadL f sz x lo hi).set i X) x lo' hi' := ⟨by rw [List.length_set, deadL_len], fun hm q hq => by
  have := h hm
  rw [List.getElem?_set_ne (by omega), deadL_get, List.getElem?_map]
  congr 1
  funext v
  exact if_neg (by omega)⟩
theorem outDE {lo' hi' i : Nat} {v : α} (h : x.length ≤ 9223372036854775807 → lo = i ∧ lo' = i + 1 ∧ hi ≤ hi') (hi0 : i < x.length) : OutL f ((deadL f sz x lo hi).set i (f v)) (x.set i v) lo' hi' := ⟨by rw [List.length_set, deadL_len, List.length_set], fun hm q hq => by
  rw [List.length_set] at hm
  have := h hm
  rw [List.getElem?_map]
  by_cases e : i = q
  · subst e
    rw [List.getElem?_set_self (by rw [deadL_len]; exact hi0), List.getElem?_set_self hi0]; rfl
  · rw [List.getElem?_set_ne e, List.getElem?_set_ne e, deadL_get]
    congr 1
    funext v
    exact if_neg (by omega)⟩
end
section
variable {E : Env} {nt : Nat} {s : S}
theorem gh_deadW {α : Type} {f : α → AV} {op : Bool} {ds : List Ds} {b e sz lo hi : Nat} {xs : List AV} {x : List α} (hb : gB s.bk b = .drow op ds e sz xs) (h : OutL f xs x lo hi) (hcl : clsL (x.map f)) : Gh E nt s [(b, .drow false ds e sz (deadL f sz x lo hi))] [b] := by
  refine gh_one hb (fun t p => match p with | [] => t [] | q :: r => if lo ≤ q / sz ∧ q / sz < hi then none else t (q :: r)) (fun t i p k hk => by
    have hk' : (if lo ≤ i / sz ∧ i / sz < hi then none else t (i :: p)) = some k := hk
    split at hk'
    · cases hk'
    · exact hk') fun Zn w ρ bk bk' t v m hr => ?_
  obtain ⟨h0, inner, ho, hl, hr⟩ := hr
  have hm : x.length ≤ 9223372036854775807 := by
    rw [← h.1]
    rcases ho.2 with ⟨_, e2⟩ | ⟨g', cap, cur, e1, _, hh, hnc, hcm, _⟩
    · omega
    · simp only [maxLen] at hcm; omega
  have hlen : (deadL f sz x lo hi).length = xs.length := by rw [deadL_len, h.1]
  have get : ∀ j X, (deadL f sz x lo hi)[j]? = some X → ((lo ≤ j ∧ j < hi) ∧ X = jk sz) ∨ (¬ (lo ≤ j ∧ j < hi) ∧ xs[j]? = some X) := fun j X hj => by
    by_cases hd : lo ≤ j ∧ j < hi
    · left
      rw [deadL_get] at hj
      obtain ⟨y, _, hy⟩ := Option.map_eq_some_iff.1 hj
      rw [if_pos hd] at hy
      exact ⟨hd, hy.symm⟩
    · right
      refine ⟨hd, ?_⟩
      rw [h.2 hm j hd, List.getElem?_map, ← hj, deadL_get]
      congr 1
      funext y
      exact (if_neg hd).symm
  refine ⟨h0, inner, by rw [hlen]; exact ho, fun j X hj => ?_, fun j X i lv hj hi' => ?_⟩
  · rcases get j X hj with ⟨_, rfl⟩ | ⟨_, h2⟩
    · show (List.replicate sz AV.junk).length = sz; simp
    · exact hl j X h2
  · rcases get j X hj with ⟨h1, rfl⟩ | ⟨h1, h2⟩
    · have hi2 : (List.replicate sz AV.junk)[i]? = some lv := hi'
      have hisz : i < sz := by have := (List.getElem?_eq_some_iff.1 hi2).1; simpa using this
      have hlv := List.eq_of_mem_replicate (List.mem_of_getElem? hi2)
      have hj' : j < xs.length := by rw [← hlen]; exact (List.getElem?_eq_some_iff.1 hj).1
      obtain ⟨u, hu, hv⟩ := hr j _ i _ (List.getElem?_eq_getElem hj') (List.getElem?_eq_getElem (by rw [hl j _ (List.getElem?_eq_getElem hj')]; exact hisz))
      exact ⟨u, hu, .inl (by rw [hlv]; exact .junk hv.one)⟩
    · obtain ⟨u, hu, hv⟩ := hr j X i lv h2 hi'
      refine ⟨u, hu, ?_⟩
      have hisz : i < sz := by rw [← hl j X h2]; exact (List.getElem?_eq_some_iff.1 hi').1
      have e1 : (j * sz + i) / sz = j := by
        rw [Nat.mul_comm, Nat.mul_add_div h0, Nat.div_eq_of_lt hisz, Nat.add_zero]
      have e2 : Tr.sub (fun p => match p with | [] => t [] | q :: r => if lo ≤ q / sz ∧ q / sz < hi then none else t (q :: r)) (j * sz + i) = t.sub (j * sz + i) := by
        funext p
        show (if lo ≤ (j * sz + i) / sz ∧ (j * sz + i) / sz < hi then none else t ((j * sz + i) :: p)) = t ((j * sz + i) :: p)
        rw [e1, if_neg h1]
      rw [e2]
      rcases hv.mv (op' := op) m (fun h => h) with hv | ⟨c, _, h3, _⟩
      · exact .inl hv
      · exfalso
        have hx : (x.map f)[j]? = some X := by rw [← h.2 hm j h1]; exact h2
        have := hcl X (List.mem_of_getElem? hx) lv (List.mem_of_getElem? hi')
        rw [h3] at this; cases this
theorem deadW {α : Type} {op : Bool} {ds : List Ds} {e sz : Nat} {xs : List AV} (b : Nat) (f : α → AV) (x : List α) (lo hi : Nat) (h : OutL f xs x lo hi) (hcl : clsL (x.map f)) (hb : gB s.bk b = .drow op ds e sz xs := by rfl) : Gh E nt s [(b, .drow false ds e sz (deadL f sz x lo hi))] [b] := gh_deadW hb h hcl
end
/-! Fronts. -/
section
variable {P : Program} {E : Env} {nt : Nat} {s : S} {o : Oper} {d : Nat}
theorem own_front {w : World} {e sz n N c : Nat} {A : Option Addr} {m : Nat} {inner : List Value} (h : ownsR w 0 e sz (.slice A N c) m inner) (hn : n ≤ N) : sliced A 0 (0 + n) c sz = .slice A n c ∧ ownsR w 0 e sz (.slice A n c) n (inner.take (n * sz)) ∧ N = m := by
  have e0 : sliced A 0 (0 + n) c sz = .slice A n c := by
    unfold sliced
    rw [Nat.zero_add, Nat.zero_mul, Nat.sub_zero, Nat.sub_zero]
    cases A with
    | none => split <;> rfl
    | some a => split <;> simp [Addr.add]
  refine ⟨e0, ?_⟩
  have hlen : N = m := by
    rcases h.2 with ⟨e1, e2⟩ | ⟨g, cap, cur, e1, _⟩
    · injection e1 with _ e3 _; omega
    · injection e1 with _ e3 _
  subst hlen
  refine ⟨⟨?_, ?_⟩, rfl⟩
  · rw [List.length_take, h.1, Nat.min_eq_left (Nat.mul_le_mul_right _ hn)]
  · rcases h.2 with ⟨e1, e2⟩ | ⟨g, cap, cur, e1, h1, h2, h3, h4, h5, h6⟩
    · injection e1 with e3 e4 e5
      subst e3; subst e5
      have : n = 0 := by omega
      subst this
      exact .inl ⟨rfl, rfl⟩
    · injection e1 with e3 e4 e5
      subst e3; subst e5
      refine .inr ⟨g, c, cur, rfl, h1, h2, by omega, h4, h5, ?_⟩
      rw [← h6, List.take_take, Nat.min_eq_left (Nat.mul_le_mul_right _ hn)]
theorem r_slrD {T b e sz : Nat} {op : Bool} {ds : List Ds} {x : Operand} {lo hi : Option Operand} {u : List AV} (l n : Nat) (vl vh : Option Value) (hop : o.op = .slice T x lo hi none) (hd : o.dst = some d) (hlt : Nat.blt d nt = true) (hx : opd s x = .row b) (hb : gB s.bk b = .drow op ds e sz u)
    (hl : ∀ y, lo = some y → ∃ v, vl = some v ∧ opd s y = .lit v) (hl0 : lo = none → vl = none) (hh : ∀ y, hi = some y → ∃ v, vh = some v ∧ opd s y = .lit v) (hh0 : hi = none → vh = none) (h2 : l + n ≤ u.length)
    (hr : ∀ A c w, u.length ≤ c → (Instr.sliceAt T (.slice A u.length c) vl vh none).run P w = .ok (sliced A l (l + n) c sz) w) : Okv P E nt o s ⟨some d, .sub b sz l n, []⟩ (lkO x ++ (lo.toList.flatMap lkO ++ hi.toList.flatMap lkO)) [b] :=
  okv_val hd hlt fun tm bk ρ Zn a w hag hs => by
    have h3 := St.opd (s := s) hs x (fun t ht => hag.1 t (List.mem_append_left _ ht))
    rw [hx] at h3
    have e1 : lo.map a.eval = vl := by
      cases lo with
      | none => rw [hl0 rfl]; rfl
      | some y =>
        obtain ⟨v, rfl, hv⟩ := hl y rfl
        have h2 := St.opd (s := s) hs y (fun t ht => hag.1 t (List.mem_append_right _ (List.mem_append_left _ (List.mem_flatMap.2 ⟨y, List.mem_singleton.2 rfl, ht⟩))))
        rw [hv] at h2
        rw [Option.map_some, rep_lit h2]
    have e2 : hi.map a.eval = vh := by
      cases hi with
      | none => rw [hh0 rfl]; rfl
      | some y =>
        obtain ⟨v, rfl, hv⟩ := hh y rfl
        have h2 := St.opd (s := s) hs y (fun t ht => hag.1 t (List.mem_append_right _ (List.mem_append_right _ (List.mem_flatMap.2 ⟨y, List.mem_singleton.2 rfl, ht⟩))))
        rw [hv] at h2
        rw [Option.map_some, rep_lit h2]
    obtain ⟨hf, h4, _⟩ := rep_C00 h3 rfl
    obtain ⟨ω, dd⟩ := hs.deep
    have hbk : bk b = .drow op ds e sz u := (hag.2 b (List.mem_singleton.2 rfl)).trans hb
    obtain ⟨_, inner, ho, _⟩ := dd.row b _ _ _ _ _ hbk
    obtain ⟨A, c, h6, h7, _⟩ := own_form ho
    refine ⟨_, ?_, rep_of_C (.inl ⟨hf, A, u.length, c, h6, h2, rfl⟩)⟩
    unfold execOp
    simp only [hop]
    rw [Sem.run_bind, h4, h6, e1, e2, Option.map_none, hr _ _ _ h7]
    rfl
theorem srHD {T b e' sz m : Nat} {op : Bool} {ds : List Ds} {u : List AV} {x y : Operand} {k : IntKind} {h : Int} (e : Nat) (hm : u.length = m) (h0 : 0 ≤ h) (h1 : h ≤ (m : Int)) (hop : o.op = .slice T x none (some y) none := by rfl) (hx : opd s x = .row b := by rfl) (hb : gB s.bk b = .drow op ds e' sz u := by rfl) (hy : opd s y = .lit (.int k h) := by rfl) (hT : sliceT P T e sz = true := by kernel_rfl) (hd : o.dst = some d := by rfl) (hlt : Nat.blt d nt = true := by rfl) : Okv P E nt o s ⟨some d, .sub b sz 0 h.toNat, []⟩ (lkO x ++ lkO y) [b] := by
  subst hm
  obtain ⟨e1, e2⟩ := elem_of hT
  have := r_slrD (P := P) (E := E) (nt := nt) (s := s) 0 h.toNat none (some (.int k h)) hop hd hlt hx hb (fun _ h => by cases h) (fun _ => rfl) (fun y' h => by cases h; exact ⟨_, rfl, hy⟩) (fun h => by cases h) (by omega) (fun A c w hc => by
    rw [run_sliceAt_slice w T _ _ _ _ e1, run_slice_h w T A _ _ e1 k h h0 (by omega), e2, Nat.zero_add]; rfl)
  simpa using this
theorem srLD {T b e' sz m : Nat} {op : Bool} {ds : List Ds} {u : List AV} {x y : Operand} {k : IntKind} {l : Int} (e : Nat) (hm : u.length = m) (h0 : 0 ≤ l) (h1 : l ≤ (m : Int)) (hop : o.op = .slice T x (some y) none none := by rfl) (hx : opd s x = .row b := by rfl) (hb : gB s.bk b = .drow op ds e' sz u := by rfl) (hy : opd s y = .lit (.int k l) := by rfl) (hT : sliceT P T e sz = true := by kernel_rfl) (hd : o.dst = some d := by rfl) (hlt : Nat.blt d nt = true := by rfl) : Okv P E nt o s ⟨some d, .sub b sz l.toNat (m - l.toNat), []⟩ (lkO x ++ lkO y) [b] := by
  subst hm
  obtain ⟨e1, e2⟩ := elem_of hT
  have := r_slrD (P := P) (E := E) (nt := nt) (s := s) l.toNat (u.length - l.toNat) (some (.int k l)) none hop hd hlt hx hb (fun y' h => by cases h; exact ⟨_, rfl, hy⟩) (fun h => by cases h) (fun _ h => by cases h) (fun _ => rfl) (by omega) (fun A c w hc => by
    rw [run_sliceAt_slice w T _ _ _ _ e1, run_slice_l w T A _ _ e1 k l h0 (by omega), e2, show l.toNat + (u.length - l.toNat) = u.length by omega]; rfl)
  simpa using this
end
section
variable {E : Env} {nt : Nat} {tm : List (Nat × AV)} {bk : List (Nat × Blk)} {K : Act → World → Prop}
theorem rowD_front {Zf : Fl → Nat → Prop} {w : World} {ρ : Nat → Value} {bk : Nat → Blk} {op : Bool} {ds : List Ds} {t : Tr} {e sz n N c : Nat} {A : Option Addr} {xs : List AV} (h : RowD Zf w ρ bk op ds t e sz (.slice A N c) xs) (hn : n ≤ N) : RowD Zf w ρ bk op ds (t.cutR (n * sz) (xs.length * sz)) e sz (sliced A 0 (0 + n) c sz) (xs.take n) ∧ refB (sliced A 0 (0 + n) c sz) = refB (.slice A N c) ∧ (sliced A 0 (0 + n) c sz).oneCell' = true := by
  obtain ⟨h0, inner, ho, hl, hr⟩ := h
  obtain ⟨e0, ho', hN⟩ := own_front ho hn
  rw [e0]
  have e6 : (xs.take n).length = n := by simp; omega
  refine ⟨⟨h0, _, by rw [e6]; exact ho', fun j x hj => ?_, fun j x i lv hj hi => ?_⟩, by cases A <;> rfl, rfl⟩
  · rw [List.getElem?_take] at hj
    split at hj
    · exact hl j x hj
    · cases hj
  · rw [List.getElem?_take] at hj
    split at hj
    · rename_i hjn
      obtain ⟨u, hu, hv⟩ := hr j x i lv hj hi
      have hil : i < sz := by rw [← hl j x hj]; exact (List.getElem?_eq_some_iff.1 hi).1
      have hlt : j * sz + i < n * sz := by
        have := Nat.mul_le_mul_right sz hjn
        rw [Nat.succ_mul] at this
        omega
      refine ⟨u, by rw [List.getElem?_take, if_pos hlt]; exact hu, ?_⟩
      rw [cutR_out (by omega)]
      exact hv
    · cases hj
/-- Freed by the front, of a deep row: for a tmp or a box's cell. -/
theorem front_updD {ρ : Nat → Value} {Zn : Nat → Prop} {a : Act} {w : World} {b nb e sz n : Nat} {op : Bool} {ds : List Ds} {xs : List AV} {u : Value} {tm' : Nat → AV} {bk' : Nat → Blk} (hs : St E nt ρ Zn (gT tm) (gB bk) a w) (hb : gB bk b = .drow op ds e sz xs) (hnb : gB bk nb = .fresh) (hu : ∃ A N c, ρ b = .slice A N c ∧ 0 + n ≤ N ∧ u = sliced A 0 (0 + n) c sz) (V : Nat → Prop)
    (hV : ∀ i, V i → gB bk i ≠ .fresh ∧ live (gB bk i) = live (bk' i) ∧ bk' i ≠ .fresh ∧ i ≠ b)
    (hVD : ∀ i, V i → isD (gB bk i) = false ∧ isD (bk' i) = false) (hb' : ∀ i, ¬ V i → i ≠ b → i ≠ nb → bk' i = gB bk i) (hbb : bk' b = .gone) (hbn : bk' nb = .drow op ds e sz (xs.take n))
    (hVB : ∀ i, V i → Mv (fz E Zn) (fz E Zn) w w ρ (fun i => if i = nb then u else ρ i) (gB bk) bk' → BlkOk (fz E Zn) w (fun i => if i = nb then u else ρ i) bk' (ρ i) (bk' i))
    (ht : ∀ i : Nat, (tm' i = gT tm i) ∨ (Mv (fz E Zn) (fz E Zn) w w ρ (fun i => if i = nb then u else ρ i) (gB bk) bk' → RepT (fz E Zn) w (fun i => if i = nb then u else ρ i) bk' (tm' i) (a.eval (.tmp i)))) : St E nt (fun i => if i = nb then u else ρ i) Zn tm' bk' a w := by
  obtain ⟨A, N, c, h1, h2, rfl⟩ := hu
  obtain ⟨ω, dd⟩ := hs.deep
  have hne : b ≠ nb := fun e => by subst e; rw [hb] at hnb; cases hnb
  have hrow := dd.row b _ _ _ _ _ hb
  rw [h1] at hrow
  obtain ⟨f1, f2, f3⟩ := rowD_front hrow (by omega : n ≤ N)
  have hlb : live (gB bk b) = true := by rw [hb]; rfl
  have hDb : isD (gB bk b) = true := by rw [hb]; rfl
  have trb := dd.tree b hDb
  obtain ⟨ω', o2, o3⟩ : ∃ ω' : Nat → Tr, ω' nb = (ω b).cutR (n * sz) (xs.length * sz) ∧ ∀ x, x ≠ nb → ω' x = ω x := ⟨fun x => if x = nb then (ω b).cutR (n * sz) (xs.length * sz) else ω x, if_pos rfl, fun x h1 => if_neg h1⟩
  have ownV : ∀ i k, V i → OwnD (fun i => if i = nb then sliced A 0 (0 + n) c sz else ρ i) ω' bk' i k → OwnD ρ ω (gB bk) i k := fun i k hi ho => by
    obtain ⟨v1, v2, v3, v4⟩ := hV i hi
    have hin : i ≠ nb := fun e => by subst e; exact v1 hnb
    refine ⟨by rw [v2]; exact ho.1, ?_⟩
    have h3 := ho.2
    dsimp only at h3
    rw [if_neg hin, o3 i hin] at h3
    rcases h3 with h3 | ⟨h3, _⟩
    · exact .inl h3
    · rw [(hVD i hi).2] at h3; cases h3
  have ownn : ∀ k, OwnD (fun i => if i = nb then sliced A 0 (0 + n) c sz else ρ i) ω' bk' nb k → OwnD ρ ω (gB bk) b k := fun k ho => by
    have h3 := ho.2
    dsimp only at h3
    rw [if_pos rfl, o2] at h3
    rcases h3 with h3 | ⟨_, i, p, h3⟩
    · exact ⟨hlb, .inl (by rw [h1, ← f2]; exact h3)⟩
    · exact ⟨hlb, .inr ⟨hDb, i, p, cutR_some h3⟩⟩
  have owng : ∀ k, ¬ OwnD (fun i => if i = nb then sliced A 0 (0 + n) c sz else ρ i) ω' bk' b k := fun k ho => by have := ho.1; rw [hbb] at this; cases this
  refine hs.updD dd ω' (fun i => V i ∨ i = b ∨ i = nb) rfl rfl rfl (Nat.le_refl _) (fun _ _ _ => rfl) (fun i hi => if_neg fun e => hi (.inr (.inr e))) (fun i hi => hb' i (fun h => hi (.inl h)) (fun h => hi (.inr (.inl h))) (fun h => hi (.inr (.inr h)))) (fun i hi => o3 i fun e => hi (.inr (.inr e))) (fun i hi hf => ?_) (fun _ h => h) (fun _ h => .inl h) (fun i hi m => ?_) (fun i op1 ds1 e1 sz1 xs1 hi m hbx => ?_) (fun i hi hdx => ?_) (fun i k hi ho => ?_) (fun i k hi ho _ => ?_) (fun i i' k hi hi' ho ho' => ?_) rfl rfl (fun i => ?_)
  · rcases hi with hi | rfl | rfl
    · exact ⟨(hV i hi).2.2.1, if_neg fun e => by subst e; exact hf hnb⟩
    · exact ⟨by rw [hbb]; simp, if_neg hne⟩
    · exact absurd hnb hf
  · rcases hi with hi | rfl | rfl
    · rw [if_neg fun e => by subst e; exact (hV i hi).1 hnb]; exact hVB i hi m
    · rw [hbb]; trivial
    · rw [hbn]; trivial
  · rcases hi with hi | rfl | rfl
    · have := (hVD i hi).2; rw [hbx] at this; cases this
    · rw [hbb] at hbx; cases hbx
    · rw [hbn] at hbx
      injection hbx with a1 a2 a3 a4 a5
      subst a1; subst a2; subst a3; subst a4; subst a5
      rw [o2, if_pos rfl]
      obtain ⟨g0, inner, go, gl, gr⟩ := f1
      refine ⟨g0, inner, go, gl, fun j x i lv hj hi => ?_⟩
      obtain ⟨u, hu, hv⟩ := gr j x i lv hj hi
      exact ⟨u, hu, hv.mv m fun h => h⟩
  · rcases hi with hi | rfl | rfl
    · rw [(hVD i hi).2] at hdx; cases hdx
    · rw [hbb] at hdx; cases hdx
    · rw [o2, if_pos rfl]
      refine ⟨fun i p k hk hk' => trb.1 i p k (cutR_some hk) (by rw [h1, ← f2]; exact hk'), fun i p j q k hk hk' => trb.2 i p j q k (cutR_some hk) (cutR_some hk')⟩
  · rcases hi with hi | rfl | rfl
    · have := ownV i k hi ho; exact ⟨.inr ⟨i, .inl hi, this⟩, (dd.out i k this).2⟩
    · exact absurd ho (owng k)
    · have := ownn k ho; exact ⟨.inr ⟨b, .inr (.inl rfl), this⟩, (dd.out b k this).2⟩
  · rcases hi with hi | rfl | rfl
    · exact dd.lt i k (ownV i k hi ho)
    · exact absurd ho (owng k)
    · exact dd.lt b k (ownn k ho)
  · rcases hi with hi | rfl | rfl <;> rcases hi' with hi' | rfl | rfl
    · exact dd.sep _ _ k (ownV i k hi ho) (ownV i' k hi' ho')
    · exact absurd ho' (owng k)
    · exact absurd (dd.sep _ _ k (ownV i k hi ho) (ownn k ho')) (hV i hi).2.2.2
    · exact absurd ho (owng k)
    · rfl
    · exact absurd ho (owng k)
    · exact absurd (dd.sep _ _ k (ownV i' k hi' ho') (ownn k ho)) (hV i' hi').2.2.2
    · exact absurd ho' (owng k)
    · rfl
  · rcases ht i with h | h
    · exact .inl ⟨h, rfl⟩
    · exact .inr h
theorem ac_preD {b e sz n : Nat} {op : Bool} {ds : List Ds} {xs : List AV} (t nb : Nat) (ys : List AV) (h : ACont E nt ⟨(t, .row nb) :: tm, (b, .gone) :: (nb, .drow op ds e sz ys) :: bk⟩ K) (hy : xs.take n = ys) (ht : gT tm t = .sub b sz 0 n := by rfl) (hb : gB bk b = .drow op ds e sz xs := by rfl) (hnb : gB bk nb = .fresh := by rfl) : ACont E nt ⟨tm, bk⟩ K := by
  subst hy
  intro a w ⟨ρ, Zn, hs⟩
  have h1 := hs.tmp t
  rw [ht] at h1
  obtain ⟨hf, hu⟩ := rep_C00 h1 rfl
  have hne : b ≠ nb := fun e => by subst e; rw [hb] at hnb; cases hnb
  refine h a w ⟨fun i => if i = nb then a.eval (.tmp t) else ρ i, Zn, front_updD hs hb hnb hu (fun _ => False) (fun _ h => h.elim) (fun _ h => h.elim) (fun i _ h1 h2 => by rw [gB_cons, if_neg h1, gB_cons, if_neg h2]) (by rw [gB_cons, if_pos rfl]) (by rw [gB_cons, if_neg (Ne.symm hne), gB_cons, if_pos rfl]) (fun _ h => h.elim) (fun i => ?_)⟩
  by_cases hi : i = t
  · right
    intro m
    subst hi
    show RepT _ _ _ _ (gT ((i, .row nb) :: tm) i) _
    rw [gT_cons, if_pos rfl]
    obtain ⟨A, N, c, h5, h6, h7⟩ := hu
    refine rep_of_C (.inl ⟨by rw [gB_cons, if_neg (Ne.symm hne), gB_cons, if_pos rfl]; simp, by simp, ?_⟩)
    rw [h7]; rfl
  · left; show gT ((t, .row nb) :: tm) i = _; rw [gT_cons, if_neg hi]
theorem ac_preBD {b e sz n tb : Nat} {op : Bool} {ds : List Ds} {xs cells : List AV} (q j nb : Nat) (ys cells' : List AV) (h : ACont E nt ⟨tm, (q, .box tb cells') :: (b, .gone) :: (nb, .drow op ds e sz ys) :: bk⟩ K) (hy : xs.take n = ys) (hq : gB bk q = .box tb cells := by rfl) (hj : cells[j]? = some (.sub b sz 0 n) := by rfl) (hc : cells.set j (.row nb) = cells' := by rfl) (hb : gB bk b = .drow op ds e sz xs := by rfl) (hnb : gB bk nb = .fresh := by rfl) : ACont E nt ⟨tm, bk⟩ K := by
  subst hy
  intro a w ⟨ρ, Zn, hs⟩
  have hblk := hs.blk q
  rw [hq] at hblk
  obtain ⟨g, cs, h2, h3, h4⟩ := hblk
  obtain ⟨u, hv, hr⟩ := h4.get hj
  have hr0 : RepC0 (fz E Zn) w ρ (gB bk) (.sub b sz 0 n) u := by
    rcases hr with hr | ⟨_, _, _, hr, _⟩
    · exact hr
    · cases hr
  obtain ⟨hf, hu⟩ := hr0
  have hne : b ≠ nb := fun e => by subst e; rw [hb] at hnb; cases hnb
  have hqb : q ≠ b := fun e => by subst e; rw [hb] at hq; cases hq
  have hqn : q ≠ nb := fun e => by subst e; rw [hq] at hnb; cases hnb
  have hg : ∀ i, gB ((q, .box tb cells') :: (b, .gone) :: (nb, .drow op ds e sz (xs.take n)) :: bk) i = if i = q then .box tb cells' else if i = b then .gone else if i = nb then .drow op ds e sz (xs.take n) else gB bk i := fun i => by rw [gB_cons, gB_cons, gB_cons]
  refine h a w ⟨fun i => if i = nb then u else ρ i, Zn, front_updD hs hb hnb hu (fun i => i = q) (fun i hi => ?_) (fun i hi => by subst hi; rw [hg, if_pos rfl, hq]; exact ⟨rfl, rfl⟩) (fun i h1 h2 h3 => by rw [hg, if_neg h1, if_neg h2, if_neg h3]) (by rw [hg, if_neg (Ne.symm hqb), if_pos rfl]) (by rw [hg, if_neg (Ne.symm hqn), if_neg (Ne.symm hne), if_pos rfl]) (fun i hi m => ?_) (fun i => .inl rfl)⟩
  · subst hi
    rw [hg, if_pos rfl, hq]
    exact ⟨by simp, rfl, by simp, hqb⟩
  · subst hi
    rw [hg, if_pos rfl]
    refine ⟨g, cs, h2, h3, ?_⟩
    obtain ⟨A, N, c, h5, h6, h7⟩ := hu
    have h8 := (h4.imp fun _ _ h => RepC.move m h).set j (a := .row nb) (b := u) (.inl ⟨by rw [hg, if_neg (Ne.symm hqn), if_neg (Ne.symm hne), if_pos rfl]; simp, by simp, by rw [h7]; rfl⟩)
    rw [hc] at h8
    have e : cs.set j u = cs := by
      apply List.ext_getElem?
      intro k
      rw [List.getElem?_set]
      split
      · rename_i e; subst e
        rw [hv]
        have := (List.getElem?_eq_some_iff.1 hv).1
        simp [this]
      · rfl
    rwa [e] at h8
/-- A whole deep row, told as its own front. -/
theorem ac_rsD {b e sz : Nat} {op : Bool} {ds : List Ds} {xs : List AV} (t n : Nat) (h : ACont E nt ⟨(t, .sub b sz 0 n) :: tm, bk⟩ K) (hn : xs.length = n) (ht : gT tm t = .row b := by rfl) (hb : gB bk b = .drow op ds e sz xs := by rfl) : ACont E nt ⟨tm, bk⟩ K := by
  subst hn
  intro a w ⟨ρ, Zn, hs⟩
  have h1 := hs.tmp t
  rw [ht] at h1
  obtain ⟨hf, hu, _⟩ := rep_C00 h1 rfl
  obtain ⟨ω, dd⟩ := hs.deep
  have hrow := dd.row b _ _ _ _ _ hb
  refine h a w ⟨ρ, Zn, hs.upd (fun _ => False) rfl rfl rfl (Nat.le_refl _) (fun _ _ _ => rfl) (fun _ _ => rfl) (fun _ _ => rfl) (fun _ h => h.elim) (fun _ h => h) (fun _ h => .inl h) (fun _ h => h.elim) (fun _ _ h => h.elim) (fun _ _ _ h => h.elim) rfl rfl (fun i => ?_) (fun _ h => h.elim)⟩
  by_cases hi : i = t
  · right
    intro m
    subst hi
    show RepT _ _ _ _ (gT ((i, .sub b sz 0 xs.length) :: tm) i) _
    rw [gT_cons, if_pos rfl]
    obtain ⟨h0, inner, ho, _⟩ := hrow
    obtain ⟨A, c, e1, _⟩ := own_form ho
    refine rep_of_C (.inl ⟨hf, A, xs.length, c, e1, by omega, ?_⟩)
    rw [hu, e1]
    unfold sliced
    rw [Nat.zero_add, Nat.zero_mul, Nat.sub_zero, Nat.sub_zero]
    cases A with
    | none => split <;> rfl
    | some a => split <;> simp [Addr.add]
  · left; exact ⟨by show gT ((t, .sub b sz 0 xs.length) :: tm) i = _; rw [gT_cons, if_neg hi], rfl⟩
end
/-! Clearing. -/
section
variable {P : Program} {E : Env} {nt : Nat} {s : S} {o : Oper} {d : Nat}
theorem r_clrD {T b e sz lo n : Nat} {op : Bool} {ds : List Ds} {x : Operand} {xs xs' : List AV} {zs : List Value} {v : AV} (hop : o.op = .call { callee := .builtin .clear, args := #[x], argTypes := #[T] }) (hd : o.dst = none) (hx : opd s x = .sub b sz lo n) (hb : gB s.bk b = .drow op ds e sz xs) (hT : sliceT P T e sz = true) (hz : zeroOf P e = some zs) (h1 : zs.all (·.oneCell') = true) (hzl : Nat.beq zs.length sz = true) (hv : ZD ds v.leaves zs) (hn : lo + n = xs.length) (hxs : xs.take lo ++ List.replicate n v = xs') :
    Okv P E nt o s ⟨none, .junk, [(b, .drow true ds e sz xs')]⟩ (lkO x) [b] :=
  okv_setD hd hb (fun t => t.cutR (lo * sz) (n * sz)) (fun t i p k h => cutR_some h) fun tm bk ρ Zn a w t hag hs hrow => by
    have e1 := St.opd (s := s) hs x hag.1
    rw [hx] at e1
    obtain ⟨_, A, N, c, h3, h4, h5⟩ := rep_C00 e1 rfl
    obtain ⟨hu, _⟩ := sliceT_of hT
    obtain ⟨z, hzr, hzc⟩ := zero_run hz w
    have hzl' := beq_t hzl
    obtain ⟨h0, inner, hown, hl, hr⟩ := hrow
    have hN : N = xs.length := by
      obtain ⟨A', c', e2, _⟩ := own_form hown
      rw [h3] at e2; injection e2
    have hlx : xs'.length = xs.length := by rw [← hxs]; simp; omega
    by_cases hn0 : n = 0
    · subst hn0
      have hx' : xs' = xs := by rw [← hxs, List.replicate_zero, List.append_nil, List.take_of_length_le (by omega)]
      subst hx'
      refine ⟨_, .tuple #[], w, ?_, .inl rfl, ⟨rfl, rfl, rfl, Nat.le_refl _, fun _ _ _ => rfl⟩, fun bk' m hk => ⟨h0, inner, hown, hl, fun j x i lv hj hi => ?_⟩⟩
      · have hsl : a.eval x = .slice (if c = lo then A else A.map (·.add (lo * sz))) 0 (c - lo) := by rw [h5]; simp [sliced]
        unfold execOp
        simp only [hop]
        generalize (if c = lo then A else A.map (·.add (lo * sz))) = A' at hsl
        cases A' <;> simp [resolve, invoke, builtin, hsl, Builtin.clear_, run_underlying hu]
      · obtain ⟨u, hu', hv'⟩ := hr j x i lv hj hi
        refine ⟨u, hu', ?_⟩
        rw [cutR_out (by omega)]
        exact hv'.mvw m (fun _ => rfl) (fun p k h => hk _ p k h)
    · rcases hown.2 with ⟨e2, e3⟩ | ⟨g, cap, cur, e2, _, hh, hnc, hcm, hcs, htk⟩
      · omega
      · rw [h3] at e2
        injection e2 with e2 e6 e7
        subst e2
        subst e7
        have hsl : a.eval x = .slice (some ⟨g, lo * sz, none⟩) n (c - lo) := by
          rw [h5]
          unfold sliced
          rw [if_neg (by omega)]
          simp only [Option.map_some, add_lit]
          congr 1
          omega
        have hzs : z.cells.size = sz := by rw [← Array.length_toList, hzc]; exact hzl'
        have hcells : (Builtin.zeroCells z.cells n).toList.length = n * sz := by rw [Array.length_toList, size_zeroCells, hzs]
        have hone : ∀ u ∈ (Builtin.zeroCells z.cells n).toList, u.oneCell' = true := fun u hu' => by
          obtain ⟨q, hq, rfl⟩ := List.getElem_of_mem hu'
          have hq' : q < n * sz := by rw [hcells] at hq; exact hq
          have h6 : (Builtin.zeroCells z.cells n)[(q / sz) * z.cells.size + q % sz]? = z.cells[q % sz]? := zc_get (Nat.div_lt_of_lt_mul (by rw [Nat.mul_comm]; exact hq')) (by rw [hzs]; exact Nat.mod_lt _ h0)
          rw [hzs, Nat.mul_comm, Nat.div_add_mod] at h6
          have h7 : (Builtin.zeroCells z.cells n).toList[q]? = z.cells[q % sz]? := by rw [Array.getElem?_toList]; exact h6
          rw [List.getElem?_eq_getElem hq, ← Array.getElem?_toList, hzc] at h7
          exact List.all_eq_true.1 h1 _ (List.mem_of_getElem? h7.symm)
        have hb1 : lo * sz + n * sz = xs.length * sz := by rw [← Nat.add_mul, hn]
        have hcapb : xs.length * sz ≤ c * sz := Nat.mul_le_mul_right _ hnc
        have hst := store_R P (Builtin.zeroCells z.cells n).toList 0 hh (o := lo * sz) (by rw [hcells]; omega) hone
        simp only [Nat.add_zero] at hst
        rw [hcells] at hst
        have hob : (ρ b).ownBlock = some g := by rw [h3]; rfl
        refine ⟨_, .tuple #[], w.setRow g (cur.toList.take (lo * sz) ++ (Builtin.zeroCells z.cells n).toList ++ cur.toList.drop (lo * sz + n * sz)).toArray, ?_, .inl rfl, ⟨rfl, rfl, rfl, by simp [World.setRow], fun k hk hne => setRow_other w g k _ (fun e => hne (by rw [hob, e]))⟩, fun bk' m hk => ?_⟩
        · unfold execOp
          simp only [hop]
          obtain ⟨m, rfl⟩ : ∃ m, n = m + 1 := ⟨n - 1, by omega⟩
          simp [resolve, invoke, builtin, hsl, Builtin.clear_, run_underlying hu, hzr, hst]
        · have hin : inner.length = xs.length * sz := hown.1
          refine ⟨h0, inner.take (lo * sz) ++ (Builtin.zeroCells z.cells n).toList ++ inner.drop (lo * sz + n * sz), ⟨?_, .inr ⟨g, c, _, by rw [h3, hlx]; congr 1, Nat.zero_le _, setRow_R hh hcells (by rw [hcs]; omega), by rw [hlx]; exact hnc, hcm, ?_, ?_⟩⟩, fun q y hy => ?_, fun q y k lv hy hk' => ?_⟩
          · simp only [List.length_append, List.length_take, List.length_drop]
            rw [hlx, hcells]
            omega
          · simp only [List.size_toArray, List.length_append, List.length_take, List.length_drop, Array.length_toList]
            rw [size_zeroCells, hzs]; omega
          · rw [hlx]
            show ((cur.toList.take (lo * sz) ++ (Builtin.zeroCells z.cells n).toList ++ cur.toList.drop (lo * sz + n * sz))).take (xs.length * sz) = _
            apply List.ext_getElem?
            intro q
            rw [List.getElem?_take]
            have hcl : cur.toList.length = c * sz := by simpa using hcs
            have hin' : ∀ q, q < xs.length * sz → inner[q]? = cur.toList[q]? := fun q hq => by rw [← htk, List.getElem?_take, if_pos hq]
            by_cases hq : q < xs.length * sz
            · rw [if_pos hq, midget (by omega) hcells, midget (by omega) hcells, hin' q hq]
            · rw [if_neg hq, List.getElem?_eq_none]
              simp only [List.length_append, List.length_take, List.length_drop]
              rw [hcells]; omega
          · rw [← hxs] at hy
            rcases Nat.lt_or_ge q lo with hq | hq
            · rw [List.getElem?_append_left (by simp; omega), List.getElem?_take, if_pos hq] at hy
              exact hl q y hy
            · rw [List.getElem?_append_right (by simp; omega)] at hy
              have := List.eq_of_mem_replicate (List.mem_of_getElem? hy)
              rw [this, hv.len]; exact hzl'
          · rw [← hxs] at hy
            rcases Nat.lt_or_ge q lo with hq | hq
            · rw [List.getElem?_append_left (by simp; omega), List.getElem?_take, if_pos hq] at hy
              obtain ⟨u, hu', hrep⟩ := hr q y k lv hy hk'
              have hks : k < sz := by have := hl q y hy; have := (List.getElem?_eq_some_iff.1 hk').1; omega
              have h6 : (q + 1) * sz ≤ lo * sz := Nat.mul_le_mul_right _ hq
              rw [Nat.succ_mul] at h6
              refine ⟨u, ?_, ?_⟩
              · rw [midget (by omega) hcells, if_pos (by omega)]; exact hu'
              · rw [cutR_out (by omega)]
                exact hrep.mvw m (fun _ => rfl) (fun p k h => hk _ p k h)
            · have hql : q < lo + n := by
                have := (List.getElem?_eq_some_iff.1 hy).1
                simp at this; omega
              rw [List.getElem?_append_right (by simp; omega)] at hy
              have hyv := List.eq_of_mem_replicate (List.mem_of_getElem? hy)
              subst hyv
              have hks : k < sz := by have := (List.getElem?_eq_some_iff.1 hk').1; rw [hv.len, hzl'] at this; exact this
              have h6 : lo * sz ≤ q * sz := Nat.mul_le_mul_right _ hq
              have h7 : (q + 1) * sz ≤ (lo + n) * sz := Nat.mul_le_mul_right _ hql
              rw [Nat.succ_mul, Nat.add_mul] at h7
              obtain ⟨u, hu', hrep⟩ := hv.get (Zf := fz E Zn) (w := w.setRow g (cur.toList.take (lo * sz) ++ (Builtin.zeroCells z.cells n).toList ++ cur.toList.drop (lo * sz + n * sz)).toArray) (ρ := ρ) (bk := bk') (op := true) (t := (t.cutR (lo * sz) (n * sz)).sub (q * sz + k)) (fun p => cutR_in (by omega) p) hk'
              refine ⟨u, ?_, hrep (List.all_eq_true.1 h1 _ (List.mem_of_getElem? hu'))⟩
              rw [midget (by omega) hcells, if_neg (by omega), if_pos (by omega), show q * sz + k - lo * sz = (q - lo) * sz + k by rw [Nat.sub_mul]; omega]
              have h8 := zc_get (zs := z.cells) (n := n) (q := q - lo) (i := k) (by omega) (by omega)
              rw [hzs] at h8
              rw [Array.getElem?_toList, h8, ← Array.getElem?_toList, hzc]
              exact hu'
theorem clrD {T b e sz lo n : Nat} {op : Bool} {ds : List Ds} {x : Operand} {xs : List AV} (zs : List Value) (v : AV) (xs' : List AV) (hn : lo + n = xs.length) (hxs : xs.take lo ++ List.replicate n v = xs') (hop : o.op = .call { callee := .builtin .clear, args := #[x], argTypes := #[T] } := by rfl) (hx : opd s x = .sub b sz lo n := by rfl) (hb : gB s.bk b = .drow op ds e sz xs := by rfl) (hT : sliceT P T e sz = true := by kernel_rfl) (hz : zeroOf P e = some zs := by kernel_rfl) (h1 : zs.all (·.oneCell') = true := by rfl) (hzl : Nat.beq zs.length sz = true := by rfl) (hd : o.dst = none := by rfl) (hv : ZD ds v.leaves zs := by repeat (first | exact .nil | refine .v ?_ | refine .own rfl ?_)) : Okv P E nt o s ⟨none, .junk, [(b, .drow true ds e sz xs')]⟩ (lkO x) [b] :=
  r_clrD hop hd hx hb hT hz h1 hzl hv hn hxs
end
theorem clrND {α : Type} {f : α → AV} {x : List α} {sz m hi : Nat} (h : m ≤ x.length) : m + (x.length - m) = (deadL f sz x m hi).length := by rw [deadL_len]; omega
theorem clrED {α : Type} {f : α → AV} {x : List α} {sz m n hi : Nat} {z : α} : (deadL f sz x m hi).take m ++ List.replicate n (f z) = (x.take m ++ List.replicate n z).map f := by
  rw [List.map_append, List.map_replicate]
  congr 1
  apply List.ext_getElem?
  intro q
  rw [List.getElem?_take, List.getElem?_map, List.getElem?_take]
  by_cases hq : q < m
  · rw [if_pos hq, if_pos hq, deadL_get]
    congr 1
    funext v
    exact if_neg (by omega)
  · rw [if_neg hq, if_neg hq]; rfl
end Go.Proofs.YtahmbcgolnplgaaDoorA
