/- The abstract machine, seventeenth part: more words. No claim lies here. -/
import Derived.Test.YtahmbcgolnplgaaDoorA16
set_option linter.unusedVariables false
set_option linter.unusedSimpArgs false
namespace Go.Proofs.YtahmbcgolnplgaaDoorA
open Go
theorem flE {α : Type} {f : α → AV} {l : List α} (h : ∀ (x : α) (lv : AV), lv ∈ (f x).leaves → ∃ v, lv = .lit v) : flatL (l.map f) := by
  intro x hx lv hlv
  obtain ⟨y, _, rfl⟩ := List.mem_map.1 hx
  exact h y lv hlv
theorem flI {k : IntKind} {l : List Int} : flatL (l.map (eI k)) := flE fun x lv h => ⟨_, List.mem_singleton.1 h⟩
theorem flB {l : List Bool} : flatL (l.map eB) := flE fun x lv h => ⟨_, List.mem_singleton.1 h⟩
theorem flT {l : List ByteArray} : flatL (l.map eT') := flE fun x lv h => ⟨_, List.mem_singleton.1 h⟩

/-! Parts of slices. -/
theorem sl_sl {Z : Nat → Prop} {w : World} {z : Fl} {sz l h N c : Nat} {A : Option Addr} {xs : List AV} (H : RepV Z w (.sl z sz xs) (.slice A N c)) (h1 : l ≤ h) (h2 : h ≤ N) : N = xs.length ∧ RepV Z w (.sl z sz ((xs.take h).drop l)) (sliced A l h c sz) := by
  generalize hv : Value.slice A N c = v at H
  cases H with
  | @sl _ _ _ A' c' ad f hc hm hz' hA hl hcell hrep =>
    injection hv with e1 e2 e3
    subst e1; subst e2; subst e3
    refine ⟨rfl, ?_⟩
    have hlen : ((xs.take h).drop l).length = h - l := by simp; omega
    have get : ∀ {j x}, ((xs.take h).drop l)[j]? = some x → xs[l + j]? = some x := by
      intro j x hj
      rw [List.getElem?_drop, List.getElem?_take] at hj
      split at hj
      · exact hj
      · cases hj
    have e1 : sliced A l h c sz = .slice (if c = l then A else A.map (·.add (l * sz))) ((xs.take h).drop l).length (c - l) := by
      unfold sliced
      rw [hlen]
    rw [e1]
    by_cases hn : h - l = 0
    · have he : (xs.take h).drop l = [] := List.eq_nil_of_length_eq_zero (by rw [hlen]; exact hn)
      exact .sl ad f (by rw [hlen]; omega) (by rw [hlen]; omega) hz' (fun h => by rw [hlen] at h; omega) (fun j x hj => hl _ _ (get hj)) (fun j x i lv hj => by rw [he] at hj; simp at hj) (fun j x i lv hj => by rw [he] at hj; simp at hj)
    · have hA' := hA (by omega)
      refine .sl (ad.add (l * sz)) (fun j i => f (l + j) i) (by rw [hlen]; omega) (by rw [hlen]; omega) hz' (fun _ => ⟨?_, by rw [add_block]; exact hA'.2⟩) (fun j x hj => hl _ _ (get hj)) (fun j x i lv hj hi => ?_) (fun j x i lv hj hi => hrep _ _ _ _ (get hj) hi)
      · rw [if_neg (by omega), hA'.1]; rfl
      · rw [add_add, ← hcell _ _ _ _ (get hj) hi]
        congr 2
        rw [Nat.add_mul]
        omega
theorem elem_of {P : Program} {T e sz : Nat} (hT : sliceT P T e sz = true) : P.underlying T = some (.slice (P.elem T)) ∧ ∀ w, (sizeOf (P.elem T)).run P w = .ok sz w := by
  unfold sliceT at hT
  cases hu : P.underlying T with
  | none => rw [hu] at hT; cases hT
  | some d =>
    rw [hu] at hT
    cases d <;> first | (cases hT; done) | skip
    rename_i e'
    have h2 : (Nat.beq e' e && sizeIs P e sz) = true := hT
    rw [Bool.and_eq_true] at h2
    have he : P.elem T = e' := by unfold Program.elem; rw [hu]
    refine ⟨by rw [he], fun w => ?_⟩
    rw [he, beq_t h2.1]
    exact size_run h2.2 w
section
variable {P : Program} {E : Env} {nt : Nat} {s : S} {o : Oper} {d : Nat} {α : Type} {f : α → AV} {xs : List α}
theorem r_slc {T sz : Nat} {z : Fl} {x : Operand} {lo hi : Option Operand} {u : List AV} (l h : Nat) (vl vh : Option Value) (hop : o.op = .slice T x lo hi none) (hd : o.dst = some d) (hlt : Nat.blt d nt = true) (hx : opd s x = .sl z sz u)
    (hl : ∀ y, lo = some y → ∃ v, vl = some v ∧ opd s y = .lit v) (hl0 : lo = none → vl = none) (hh : ∀ y, hi = some y → ∃ v, vh = some v ∧ opd s y = .lit v) (hh0 : hi = none → vh = none) (h1 : l ≤ h) (h2 : h ≤ u.length)
    (hr : ∀ A c w, u.length ≤ c → (Instr.sliceAt T (.slice A u.length c) vl vh none).run P w = .ok (sliced A l h c sz) w) : Okv P E nt o s ⟨some d, .sl z sz ((u.take h).drop l), []⟩ (lkO x ++ (lo.toList.flatMap lkO ++ hi.toList.flatMap lkO)) [] :=
  okv_val hd hlt fun tm bk ρ Zn a w hag hs => by
    have h3 := St.opd (s := s) hs x (fun t ht => hag.1 t (List.mem_append_left _ ht))
    rw [hx] at h3
    have e1 : lo.map a.eval = vl := by
      cases lo with
      | none => rw [hl0 rfl]; rfl
      | some y =>
        obtain ⟨v, rfl, hv⟩ := hl y rfl
        have h2 := St.opd (s := s) hs y (fun t ht => hag.1 t (List.mem_append_right _ (List.mem_append_left _ (List.mem_flatMap.2 ⟨y, List.mem_singleton.2 rfl, ht⟩))))
        rw [hv] at h2
        rw [Option.map_some, rep_lit h2]
    have e2 : hi.map a.eval = vh := by
      cases hi with
      | none => rw [hh0 rfl]; rfl
      | some y =>
        obtain ⟨v, rfl, hv⟩ := hh y rfl
        have h2 := St.opd (s := s) hs y (fun t ht => hag.1 t (List.mem_append_right _ (List.mem_append_right _ (List.mem_flatMap.2 ⟨y, List.mem_singleton.2 rfl, ht⟩))))
        rw [hv] at h2
        rw [Option.map_some, rep_lit h2]
    have h4 : RepV (fz E Zn z) w (.sl z sz u) (a.eval x) := rep_C00 h3 rfl
    have h5 : ∃ A c, a.eval x = .slice A u.length c ∧ u.length ≤ c := by
      generalize a.eval x = v at h4
      cases h4 with
      | sl ad f hc hm hz hA hl hcell hrep => exact ⟨_, _, rfl, hc⟩
    obtain ⟨A, c, h6, h7⟩ := h5
    rw [h6] at h4
    refine ⟨_, ?_, rep_of_C (.inl (sl_sl h4 h1 h2).2)⟩
    unfold execOp
    simp only [hop]
    rw [Sem.run_bind, h6, e1, e2, Option.map_none, hr _ _ _ h7]
    rfl
/-- xs[:h], xs[l:], xs[l:h]. -/
theorem slH {T sz : Nat} {z : Fl} {x y : Operand} {k : IntKind} {h : Int} (e : Nat) (h0 : 0 ≤ h) (h1 : h ≤ (xs.length : Int)) (hop : o.op = .slice T x none (some y) none := by rfl) (hx : opd s x = .sl z sz (xs.map f) := by rfl) (hy : opd s y = .lit (.int k h) := by rfl) (hT : sliceT P T e sz = true := by kernel_rfl) (hd : o.dst = some d := by rfl) (hlt : Nat.blt d nt = true := by rfl) : Okv P E nt o s ⟨some d, .sl z sz ((xs.take h.toNat).map f), []⟩ (lkO x ++ lkO y) [] := by
  obtain ⟨e1, e2⟩ := elem_of hT
  have hl : (xs.map f).length = xs.length := List.length_map ..
  have := r_slc (P := P) (E := E) (nt := nt) (s := s) 0 h.toNat none (some (.int k h)) hop hd hlt hx (fun _ h => by cases h) (fun _ => rfl) (fun y' h => by cases h; exact ⟨_, rfl, hy⟩) (fun h => by cases h) (Nat.zero_le _) (by omega) (fun A c w hc => by
    rw [run_sliceAt_slice w T _ _ _ _ e1, run_slice_h w T A _ _ e1 k h h0 (by omega), e2]; rfl)
  simpa [List.map_take] using this
theorem slL {T sz : Nat} {z : Fl} {x y : Operand} {k : IntKind} {l : Int} (e : Nat) (h0 : 0 ≤ l) (h1 : l ≤ (xs.length : Int)) (hop : o.op = .slice T x (some y) none none := by rfl) (hx : opd s x = .sl z sz (xs.map f) := by rfl) (hy : opd s y = .lit (.int k l) := by rfl) (hT : sliceT P T e sz = true := by kernel_rfl) (hd : o.dst = some d := by rfl) (hlt : Nat.blt d nt = true := by rfl) : Okv P E nt o s ⟨some d, .sl z sz ((xs.drop l.toNat).map f), []⟩ (lkO x ++ lkO y) [] := by
  obtain ⟨e1, e2⟩ := elem_of hT
  have hl : (xs.map f).length = xs.length := List.length_map ..
  have := r_slc (P := P) (E := E) (nt := nt) (s := s) l.toNat (xs.map f).length (some (.int k l)) none hop hd hlt hx (fun y' h => by cases h; exact ⟨_, rfl, hy⟩) (fun h => by cases h) (fun _ h => by cases h) (fun _ => rfl) (by omega) (Nat.le_refl _) (fun A c w hc => by
    rw [run_sliceAt_slice w T _ _ _ _ e1, run_slice_l w T A _ _ e1 k l h0 (by omega), e2]; rfl)
  rw [List.take_length] at this
  simpa [List.map_drop] using this
theorem slLH {T sz : Nat} {z : Fl} {x y y2 : Operand} {k k2 : IntKind} {l h : Int} (e : Nat) (h0 : 0 ≤ l) (h1 : l ≤ h) (h2 : h ≤ (xs.length : Int)) (hop : o.op = .slice T x (some y) (some y2) none := by rfl) (hx : opd s x = .sl z sz (xs.map f) := by rfl) (hy : opd s y = .lit (.int k l) := by rfl) (hy2 : opd s y2 = .lit (.int k2 h) := by rfl) (hT : sliceT P T e sz = true := by kernel_rfl) (hd : o.dst = some d := by rfl) (hlt : Nat.blt d nt = true := by rfl) : Okv P E nt o s ⟨some d, .sl z sz (((xs.take h.toNat).drop l.toNat).map f), []⟩ (lkO x ++ (lkO y ++ lkO y2)) [] := by
  obtain ⟨e1, e2⟩ := elem_of hT
  have hl : (xs.map f).length = xs.length := List.length_map ..
  have := r_slc (P := P) (E := E) (nt := nt) (s := s) l.toNat h.toNat (some (.int k l)) (some (.int k2 h)) hop hd hlt hx (fun y' h => by cases h; exact ⟨_, rfl, hy⟩) (fun h => by cases h) (fun y' h => by cases h; exact ⟨_, rfl, hy2⟩) (fun h => by cases h) (by omega) (by omega) (fun A c w hc => by
    rw [run_sliceAt_slice w T _ _ _ _ e1, run_slice_lh w T A _ _ e1 k k2 l h h0 h1 (by omega), e2]; rfl)
  simpa [List.map_drop, List.map_take] using this
/-! Arrays in boxes of their own; elements of one cell. -/
theorem ixX {T b : Nat} {x y : Operand} {k : IntKind} {i : Int} (n : Nat) (h0 : 0 ≤ i) (h1 : i < (n : Int)) (hop : o.op = .indexAddr T x y := by rfl) (hx : opd s x = .box b 0 := by rfl) (hy : opd s y = .lit (.int k i) := by rfl) (hT : arrT P T n 1 = true := by kernel_rfl) (hd : o.dst = some d := by rfl) (hlt : Nat.blt d nt = true := by rfl) : Okv P E nt o s ⟨some d, .box b i.toNat, []⟩ (lkO x ++ lkO y) [] := ixB n 1 i.toNat h0 h1 (by omega) hop hx hy hT hd hlt
theorem ldX {T b t : Nat} {x : Operand} {i : Int} {z : α} (h0 : 0 ≤ i) (h1 : i < (xs.length : Int)) (v : AV) (hv : f (xs.getD i.toNat z) = v) (hop : o.op = .load T x := by rfl) (hx : opd s x = .box b i.toNat := by rfl) (hb : gB s.bk b = .box t (xs.map f) := by rfl) (hT : scalarT P T = true := by kernel_rfl) (hd : o.dst = some d := by rfl) (hlt : Nat.blt d nt = true := by rfl) : Okv P E nt o s ⟨some d, v, []⟩ (lkO x) [b] := ldB hop hx hb (hv ▸ getE h0 h1) hT hd hlt
theorem stX {T b t : Nat} {p x : Operand} {i : Int} {e : α} {v : AV} (h0 : 0 ≤ i) (h1 : i < (xs.length : Int)) (hl : v.leaves = [f e]) (hop : o.op = .store T p x := by rfl) (hp : opd s p = .box b i.toNat := by rfl) (hx : opo s x = some v := by rfl) (hb : gB s.bk b = .box t (xs.map f) := by rfl) (hy : notT v = true := by rfl) (hT : sizeIs P T 1 = true := by kernel_rfl) (hd : o.dst = none := by rfl) : Okv P E nt o s ⟨none, .junk, [(b, .box t ((xs.set i.toNat e).map f))]⟩ (lkO p ++ lkO x) [b] :=
  stB 1 _ hop hp hx hb hy hT (by rw [hl]; rfl) (by rw [Nat.ble_eq, List.length_map]; omega) hd (by
    have hi : i.toNat < (xs.map f).length := by rw [List.length_map]; omega
    rw [hl, List.map_set, List.set_eq_take_append_cons_drop, if_pos hi, List.append_assoc]; rfl)
/-! Numbers and texts. -/
theorem min_ {x y : Operand} {Ts : Array TypeId} {k : IntKind} {m n : Int} (hop : o.op = .call { callee := .builtin .min, args := #[x, y], argTypes := Ts } := by rfl) (hx : opd s x = .lit (.int k m) := by rfl) (hy : opd s y = .lit (.int k n) := by rfl) (hd : o.dst = some d := by rfl) (hlt : Nat.blt d nt = true := by rfl) : Okv P E nt o s ⟨some d, .lit (.int k (min m n)), []⟩ (lkO x ++ lkO y) [] := by
  have := r_min (P := P) (E := E) hop hd hlt hx hy
  rwa [show (if n < m then n else m) = min m n by rw [Int.min_def]; split <;> split <;> omega] at this
theorem max_ {x y : Operand} {Ts : Array TypeId} {k : IntKind} {m n : Int} (hop : o.op = .call { callee := .builtin .max, args := #[x, y], argTypes := Ts } := by rfl) (hx : opd s x = .lit (.int k m) := by rfl) (hy : opd s y = .lit (.int k n) := by rfl) (hd : o.dst = some d := by rfl) (hlt : Nat.blt d nt = true := by rfl) : Okv P E nt o s ⟨some d, .lit (.int k (max m n)), []⟩ (lkO x ++ lkO y) [] := by
  have := r_max (P := P) (E := E) hop hd hlt hx hy
  rwa [show (if n > m then n else m) = max m n by rw [Int.max_def]; split <;> split <;> omega] at this
end
/-! A slice that is nil may stand for a row of one's own without elements. -/
section
variable {P : Program} {E : Env} {nt : Nat} {tm : List (Nat × AV)} {bk : List (Nat × Blk)} {K : Act → World → Prop}
theorem gB_cons {b : Nat} {x : Blk} (i : Nat) : gB ((b, x) :: bk) i = if i = b then x else gB bk i := by
  unfold gB
  show (match (match Nat.beq i b with | true => some x | false => gBo bk i) with | some b => b | none => Blk.fresh) = _
  cases he : Nat.beq i b with
  | true => simp [beq_t he]
  | false => rw [if_neg (beq_f he)]; rfl
theorem gT_cons {b : Nat} {x : AV} (i : Nat) : gT ((b, x) :: tm) i = if i = b then x else gT tm i := by
  show (match Nat.beq i b with | true => x | false => gT tm i) = _
  cases he : Nat.beq i b with
  | true => simp [beq_t he]
  | false => rw [if_neg (beq_f he)]
theorem rowNil {Zn : Nat → Prop} {w : World} {e sz : Nat} (hsz : 0 < sz) : RowOk Zn w e sz (.slice none 0 0) [] :=
  ⟨hsz, [], ⟨by simp, .inl ⟨rfl, rfl⟩⟩, fun j x h => by simp at h, fun j x i lv h => by simp at h⟩
theorem ac_nil (t nb e sz : Nat) (h : ACont E nt ⟨(t, .row nb) :: tm, (nb, .row e sz []) :: bk⟩ K) (ht : gT tm t = .lit (.slice none 0 0) := by rfl) (hnb : gB bk nb = .fresh := by rfl) (hsz : Nat.blt 0 sz = true := by rfl) : ACont E nt ⟨tm, bk⟩ K := by
  intro a w ⟨ρ, Zn, hs⟩
  refine h a w ⟨fun i => if i = nb then .slice none 0 0 else ρ i, Zn, ?_⟩
  have hsz' : 0 < sz := by simpa using hsz
  refine hs.upd (fun b => b = nb) rfl rfl rfl (Nat.le_refl _) (fun _ _ _ => rfl) (fun b hb => if_neg hb) (fun b hb => by rw [gB_cons, if_neg hb]) (fun b hb hne => absurd (hb ▸ hnb) hne) (fun _ h => h) (fun _ h => .inl h) (fun b hb m => ?_) (fun b k hb ho => ?_) (fun b b' k hb hb' _ _ => hb.trans hb'.symm) rfl rfl (fun i => ?_) (fun b hb => by subst hb; exact ⟨by rw [show gB bk b = .fresh from hnb]; rfl, by rw [gB_cons, if_pos rfl]; rfl⟩)
  · subst hb
    rw [gB_cons, if_pos rfl, if_pos rfl]
    exact rowNil hsz'
  · subst hb
    have := ho.2
    simp [refB] at this
  · by_cases hi : i = t
    · right
      intro m
      subst hi
      have h1 := hs.tmp i
      rw [ht] at h1
      rw [gT_cons, if_pos rfl, rep_lit h1]
      exact rep_of_C (.inl ⟨by rw [gB_cons, if_pos rfl]; simp, by simp, rfl⟩)
    · exact .inl ⟨by rw [gT_cons, if_neg hi], rfl⟩
theorem ac_nilB {cells : List AV} {tb : Nat} (b j nb e sz : Nat) (cells' : List AV) (h : ACont E nt ⟨tm, (b, .box tb cells') :: (nb, .row e sz []) :: bk⟩ K) (hb : gB bk b = .box tb cells := by rfl) (hj : cells[j]? = some (.lit (.slice none 0 0)) := by rfl) (hc : cells.set j (.row nb) = cells' := by rfl) (hnb : gB bk nb = .fresh := by rfl) (hsz : Nat.blt 0 sz = true := by rfl) : ACont E nt ⟨tm, bk⟩ K := by
  intro a w ⟨ρ, Zn, hs⟩
  refine h a w ⟨fun i => if i = nb then .slice none 0 0 else ρ i, Zn, ?_⟩
  have hsz' : 0 < sz := by simpa using hsz
  have hne : b ≠ nb := fun e => by subst e; rw [hb] at hnb; cases hnb
  have hg : ∀ i, gB ((b, .box tb cells') :: (nb, .row e sz []) :: bk) i = if i = b then .box tb cells' else if i = nb then .row e sz [] else gB bk i := fun i => by rw [gB_cons, gB_cons]
  refine hs.upd (fun i => i = b ∨ i = nb) rfl rfl rfl (Nat.le_refl _) (fun _ _ _ => rfl) (fun i hi => if_neg fun e => hi (.inr e)) (fun i hi => by rw [hg, if_neg fun e => hi (.inl e), if_neg fun e => hi (.inr e)]) (fun i hi hf => ?_) (fun _ h => h) (fun _ h => .inl h) (fun i hi m => ?_) (fun i k hi ho => ?_) (fun i i' k hi hi' ho ho' => ?_) rfl rfl (fun i => .inl ⟨rfl, rfl⟩) (fun i hi => by rcases hi with rfl | rfl; exact ⟨by rw [show gB bk i = _ from hb]; rfl, by rw [hg, if_pos rfl]; rfl⟩; exact ⟨by rw [show gB bk i = .fresh from hnb]; rfl, by rw [hg, if_neg (Ne.symm hne), if_pos rfl]; rfl⟩)
  · rcases hi with hi | hi
    · subst hi; exact ⟨by rw [hg, if_pos rfl]; simp, if_neg hne⟩
    · subst hi; exact absurd hnb hf
  · rcases hi with hi | hi
    · subst hi
      rw [hg, if_pos rfl, if_neg hne]
      have h1 := hs.blk i
      rw [hb] at h1
      obtain ⟨g, cs, h2, h3, h4⟩ := h1
      obtain ⟨v, hv, hr⟩ := h4.get hj
      have hv' : v = .slice none 0 0 := by
        rcases hr with hr | ⟨_, _, _, hr, _⟩
        · exact hr.1
        · cases hr
      subst hv'
      refine ⟨g, cs, h2, h3, ?_⟩
      have h5 := (h4.imp fun _ _ h => RepC.move m h).set j (a := .row nb) (b := .slice none 0 0) (.inl ⟨by rw [hg, if_neg (Ne.symm hne), if_pos rfl]; simp, by simp, rfl⟩)
      rw [hc] at h5
      have e : cs.set j (.slice none 0 0) = cs := by
        apply List.ext_getElem?
        intro k
        rw [List.getElem?_set]
        split
        · rename_i e; subst e
          rw [hv]
          have := (List.getElem?_eq_some_iff.1 hv).1
          simp [this]
        · rfl
      rwa [e] at h5
    · subst hi
      rw [hg, if_neg (Ne.symm hne), if_pos rfl, if_pos rfl]
      exact rowNil hsz'
  · rcases hi with hi | hi
    · subst hi
      have ho' : Own ρ (gB bk) i k := by
        refine ⟨by rw [hb]; rfl, ?_⟩
        have := ho.2
        simpa [hne] using this
      exact ⟨.inr ⟨i, .inl rfl, ho'⟩, (hs.out i k ho').2⟩
    · subst hi
      have := ho.2
      simp [refB] at this
  · have nn : ∀ {k}, ¬ Own (fun i => if i = nb then .slice none 0 0 else ρ i) (gB ((b, .box tb cells') :: (nb, .row e sz []) :: bk)) nb k := fun {k} ho => by
      have := ho.2
      simp [refB] at this
    rcases hi with hi | hi <;> rcases hi' with hi' | hi'
    · exact hi.trans hi'.symm
    · subst hi'; exact absurd ho' nn
    · subst hi; exact absurd ho nn
    · exact hi.trans hi'.symm
end
end Go.Proofs.YtahmbcgolnplgaaDoorA
