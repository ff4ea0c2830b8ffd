/- The abstract machine, fourteenth part: appends, and parts of slices. No claim lies here. -/
import Derived.Test.YtahmbcgolnplgaaDoorA13
import Derived.Maps.AppendAt
set_option linter.unusedVariables false
set_option linter.unusedSimpArgs false
namespace Go.Proofs.YtahmbcgolnplgaaDoorA
open Go

def flatL (ys : List AV) : Prop := ∀ x ∈ ys, ∀ lv ∈ x.leaves, ∃ v, lv = .lit v
section
variable {P : Program} {E : Env} {nt : Nat} {s : S} {o : Oper} {d : Nat}
/-- What is appended. -/
inductive Nw (s : S) (sz : Nat) : AV → List AV → List Nat → Prop
  | row {b e : Nat} {ys : List AV} : gB s.bk b = .row e sz ys → Nw s sz (.row b) ys [b]
  | sub {b e lo n : Nat} {xs : List AV} : gB s.bk b = .row e sz xs → Nw s sz (.sub b sz lo n) ((xs.drop lo).take n) [b]
  | slN {ys : List AV} : Nw s sz (.sl .n sz ys) ys []
  | slF {z : Fl} {ys : List AV} : flatL ys → Nw s sz (.sl z sz ys) ys []
  | nil : Nw s sz (.lit (.slice none 0 0)) [] []
/-- Its cells. -/
theorem Nw.ok {sz : Nat} {x : AV} {ys : List AV} {tl : List Nat} (h : Nw s sz x ys tl) {ρ : Nat → Value} {Zn : Nat → Prop} {tm : Nat → AV} {bk : Nat → Blk} {a : Act} {w : World} (hs : St E nt ρ Zn tm bk a w) (hb : ∀ b ∈ tl, bk b = gB s.bk b) {u : Value} (hu : RepT (fz E Zn) w ρ bk x u) :
    (u = .slice none 0 0 ∧ ys = []) ∨ ∃ A c, u = .slice A ys.length c ∧ (0 < ys.length → ∃ ad, A = some ad) ∧ (∀ (j : Nat) (x : AV), ys[j]? = some x → x.leaves.length = sz) ∧
      ∀ ad, A = some ad → ∀ (j : Nat) (x : AV) (i : Nat) (lv : AV), ys[j]? = some x → x.leaves[i]? = some lv → ∃ q, w.cell? (ad.add (j * sz + i)) = some q ∧ RepV Zn w lv q := by
  have key : ∀ {Z : Nat → Prop} {z : Fl} {ys : List AV} {u : Value}, RepV Z w (.sl z sz ys) u → ((∀ k, Z k → Zn k) ∨ flatL ys) → ∃ A c, u = .slice A ys.length c ∧ (0 < ys.length → ∃ ad, A = some ad) ∧ (∀ (j : Nat) (x : AV), ys[j]? = some x → x.leaves.length = sz) ∧
      ∀ ad, A = some ad → ∀ (j : Nat) (x : AV) (i : Nat) (lv : AV), ys[j]? = some x → x.leaves[i]? = some lv → ∃ q, w.cell? (ad.add (j * sz + i)) = some q ∧ RepV Zn w lv q := by
    intro Z z ys u h hz
    cases h with
    | @sl _ _ _ A c ad f hc hm hz0 hA hl hcell hrep =>
      refine ⟨A, c, rfl, fun hp => ⟨ad, (hA hp).1⟩, hl, fun ad' hA' j x i lv hj hi => ?_⟩
      have hp : 0 < ys.length := Nat.lt_of_le_of_lt (Nat.zero_le _) (List.getElem?_eq_some_iff.1 hj).1
      have := (hA hp).1.symm.trans hA'
      injection this with this
      subst this
      refine ⟨f j i, hcell _ _ _ _ hj hi, ?_⟩
      rcases hz with hz | hz
      · exact (hrep _ _ _ _ hj hi).move (fun _ _ => rfl) hz
      · obtain ⟨v, rfl⟩ := hz x (List.mem_of_getElem? hj) lv (List.mem_of_getElem? hi)
        have h1 := hrep _ _ _ _ hj hi
        generalize f j i = q at h1
        cases h1 with
        | lit h => exact .lit h
  cases h with
  | @row b e ys h1 =>
    obtain ⟨_, rfl, _⟩ := rep_C00 hu rfl
    have hblk := hs.blk b
    rw [hb b (List.mem_singleton.2 rfl), h1] at hblk
    obtain ⟨A, c, e1, hc, hA⟩ := row_form hblk
    refine .inr ⟨A, c, e1, fun hp => ?_, hblk.2.choose_spec.2.1, fun ad hA' j x i lv hj hi => ?_⟩
    · obtain ⟨g, h⟩ := hA hp; exact ⟨_, h⟩
    · have hp : 0 < ys.length := Nat.lt_of_le_of_lt (Nat.zero_le _) (List.getElem?_eq_some_iff.1 hj).1
      obtain ⟨g, rfl⟩ := hA hp
      injection hA' with hA'
      subst hA'
      obtain ⟨q, hq, hr⟩ := (row_cells hblk e1 hj).2 i lv hi
      exact ⟨q, by rw [add_lit]; exact hq, hr⟩
  | @sub b e lo n xs h1 =>
    obtain ⟨_, A, N, c, h2, h3, rfl⟩ := rep_C00 hu rfl
    have hblk := hs.blk b
    rw [hb b (List.mem_singleton.2 rfl), h1, h2] at hblk
    have hsl := sub_sl (z := .n) (Z := fun k => Zn k ∨ refB (.slice A N c) = some k) hblk h3 (fun k hk => .inl hk) (fun k hk => .inr hk)
    -- its leaves lie in the row's own zone
    obtain ⟨A', c', e1, e2, e3, e4⟩ := (show ∃ A' c', sliced A lo (lo + n) c sz = .slice A' ((xs.drop lo).take n).length c' ∧ (0 < ((xs.drop lo).take n).length → ∃ ad, A' = some ad) ∧ (∀ (j : Nat) (x : AV), ((xs.drop lo).take n)[j]? = some x → x.leaves.length = sz) ∧ ∀ ad, A' = some ad → ∀ (j : Nat) (x : AV) (i : Nat) (lv : AV), ((xs.drop lo).take n)[j]? = some x → x.leaves[i]? = some lv → ∃ q, w.cell? (ad.add (j * sz + i)) = some q ∧ RepV Zn w lv q from by
      have hN : N = xs.length := by
        obtain ⟨A1, c1, e5, _⟩ := row_form hblk
        injection e5
      have hlen : ((xs.drop lo).take n).length = n := by simp; omega
      have get : ∀ {j x}, ((xs.drop lo).take n)[j]? = some x → xs[lo + j]? = some x := by
        intro j x hj
        rw [List.getElem?_take] at hj
        split at hj
        · rwa [List.getElem?_drop] at hj
        · cases hj
      obtain ⟨A1, c1, e5, e6, e7⟩ := row_form hblk
      injection e5 with e5 e8 e9
      subst e5; subst e9
      have e10 : sliced A lo (lo + n) c sz = .slice (if c = lo then A else A.map (·.add (lo * sz))) ((xs.drop lo).take n).length (c - lo) := by
        unfold sliced
        rw [hlen, Nat.add_sub_cancel_left]
      refine ⟨_, _, e10, fun hp => ?_, fun j x hj => hblk.2.choose_spec.2.1 _ _ (get hj), fun ad had j x i lv hj hi => ?_⟩
      · obtain ⟨g, rfl⟩ := e7 (by omega)
        rw [if_neg (by omega)]
        exact ⟨_, rfl⟩
      · have hp : 0 < ((xs.drop lo).take n).length := Nat.lt_of_le_of_lt (Nat.zero_le _) (List.getElem?_eq_some_iff.1 hj).1
        obtain ⟨g, rfl⟩ := e7 (by omega)
        rw [if_neg (by omega)] at had
        injection had with had
        subst had
        obtain ⟨q, hq, hr⟩ := (row_cells hblk rfl (get hj)).2 i lv hi
        refine ⟨q, ?_, hr⟩
        show w.cell? ((Addr.add ⟨g, 0, none⟩ (lo * sz)).add (j * sz + i)) = some q
        rw [add_lit, add_lit', ← hq]
        congr 2
        rw [Nat.add_mul]; omega)
    exact .inr ⟨A', c', e1, e2, e3, e4⟩
  | @slN => exact .inr (key (Z := Zn) (rep_C00 hu rfl) (.inl fun _ h => h))
  | @slF z _ hf => exact .inr (key (Z := fz E Zn z) (rep_C00 hu rfl) (.inr hf))
  | nil => exact .inl ⟨rep_lit hu, rfl⟩
/-- The appended cells as a list. -/
theorem news_of {sz : Nat} {ys : List AV} {w : World} {Zn : Nat → Prop} {ad : Addr} (hsz : 0 < sz) (hl : ∀ (j : Nat) (x : AV), ys[j]? = some x → x.leaves.length = sz) (hc : ∀ (j : Nat) (x : AV) (i : Nat) (lv : AV), ys[j]? = some x → x.leaves[i]? = some lv → ∃ q, w.cell? (ad.add (j * sz + i)) = some q ∧ RepV Zn w lv q) :
    ∃ news : List Value, news.length = ys.length * sz ∧ (∀ j u, news[j]? = some u → w.cell? (ad.add j) = some u) ∧ (∀ u ∈ news, u.oneCell' = true) ∧ ∀ (j : Nat) (x : AV) (i : Nat) (lv : AV), ys[j]? = some x → x.leaves[i]? = some lv → ∃ q, news[j * sz + i]? = some q ∧ RepV Zn w lv q := by
  have cell : ∀ k, k < ys.length * sz → ∃ q, w.cell? (ad.add k) = some q ∧ q.oneCell' = true := by
    intro k hk
    have hj : k / sz < ys.length := Nat.div_lt_of_lt_mul (by rw [Nat.mul_comm]; exact hk)
    have hi : k % sz < sz := Nat.mod_lt _ hsz
    have h1 := List.getElem?_eq_getElem hj
    have h2 := hl _ _ h1
    obtain ⟨q, hq, hr⟩ := hc _ _ _ _ h1 (List.getElem?_eq_getElem (show k % sz < (ys[k / sz]).leaves.length by omega))
    rw [Nat.mul_comm, Nat.div_add_mod] at hq
    exact ⟨q, hq, hr.one⟩
  refine ⟨(List.range (ys.length * sz)).map fun k => (w.cell? (ad.add k)).getD undef, by simp, fun j u hu => ?_, fun u hu => ?_, fun j x i lv hj hi => ?_⟩
  · rw [List.getElem?_map] at hu
    obtain ⟨k, hk, rfl⟩ := Option.map_eq_some_iff.1 hu
    have hj := (List.getElem?_eq_some_iff.1 hk).1
    rw [List.getElem?_range (by simpa using hj)] at hk
    injection hk with hk
    subst hk
    obtain ⟨q, hq, _⟩ := cell j (by simpa using hj)
    rw [hq]; rfl
  · obtain ⟨k, hk, rfl⟩ := List.mem_map.1 hu
    obtain ⟨q, hq, h1⟩ := cell k (by simpa using hk)
    rw [hq]; exact h1
  · obtain ⟨q, hq, hr⟩ := hc j x i lv hj hi
    refine ⟨q, ?_, hr⟩
    have hj' := (List.getElem?_eq_some_iff.1 hj).1
    have hi' : i < sz := by have := hl j x hj; have := (List.getElem?_eq_some_iff.1 hi).1; omega
    have hlt : j * sz + i < ys.length * sz := by
      have : (j + 1) * sz ≤ ys.length * sz := Nat.mul_le_mul_right _ hj'
      rw [Nat.succ_mul] at this
      omega
    rw [List.getElem?_map, List.getElem?_range hlt, Option.map_some, hq]
    rfl
/-- What is appended to. -/
inductive Bs (s : S) (e sz : Nat) : AV → List AV → List (Nat × Blk) → List Nat → Prop
  | row {b : Nat} {xs : List AV} : gB s.bk b = .row e sz xs → Bs s e sz (.row b) xs [(b, .gone)] [b]
  | nil : Bs s e sz (.lit (.slice none 0 0)) [] [] []
theorem upF_two (bk : Nat → Blk) (b c : Nat) (x y : Blk) : upF bk [(b, x), (c, y)] = fun i => if i = b then x else if i = c then y else bk i := by
  funext i
  show (match (match Nat.beq i b with | true => some x | false => (match Nat.beq i c with | true => some y | false => none)) with | some y => y | none => bk i) = _
  cases he : Nat.beq i b with
  | true => simp [beq_t he]
  | false =>
    cases hc : Nat.beq i c with
    | true =>
      have h1 := beq_t hc
      subst h1
      simp [beq_f he]
    | false => simp [beq_f he, beq_f hc]
/-- An own row is taken up by a new one. -/
theorem okv_grow {b nb e sz e' sz' : Nat} {xs zs : List AV} {lk tl : List Nat} (hd : o.dst = some d) (hlt : Nat.blt d nt = true) (hnb : gB s.bk nb = .fresh) (hb : gB s.bk b = .row e sz xs)
    (h : ∀ tm bk ρ Zn a w, Agree s lk (nb :: b :: tl) tm bk → St E nt ρ Zn tm bk a w → RowOk Zn w e sz (ρ b) xs → ∃ v w', (execOp a.eval o).run P w = .ok (.value v) w' ∧ w.grownBy w' (ρ b).ownBlock ∧ (∀ k, v.ownBlock = some k → w.heap.size ≤ k ∨ (ρ b).ownBlock = some k) ∧ ((∀ k, Zn k → w'.heap[k]? = w.heap[k]?) → RowOk Zn w' e' sz' v zs)) :
    Okv P E nt o s ⟨some d, .row nb, [(b, .gone), (nb, .row e' sz' zs)]⟩ lk (nb :: b :: tl) := by
  intro tm bk hag a w ⟨ρ, Zn, hs⟩
  have hf : bk nb = .fresh := (hag.2 nb List.mem_cons_self).trans hnb
  have hbk : bk b = .row e sz xs := (hag.2 b (List.mem_cons_of_mem _ List.mem_cons_self)).trans hb
  have hne : b ≠ nb := fun e => by rw [e, hf] at hbk; cases hbk
  have hblk := hs.blk b
  rw [hbk] at hblk
  obtain ⟨v, w', h1, hg, hv, h2⟩ := h tm bk ρ Zn a w hag hs hblk
  have ownk : ∀ k, (ρ b).ownBlock = some k → Own ρ bk b k := fun k hk => ⟨by rw [hbk]; rfl, ownBlock_ref hk⟩
  have hkeep : ∀ k, k < w.heap.size → ¬ Own ρ bk b k → w'.heap[k]? = w.heap[k]? := fun k hk ho => hg.block k hk (fun e => ho (ownk k e.symm))
  have hzk : ∀ k, Zn k → w'.heap[k]? = w.heap[k]? := fun k hz => hkeep k (hs.zn k hz).1 (fun ho => (hs.out b k ho).2 hz)
  have hrow := h2 hzk
  obtain ⟨A, c, hform, _⟩ := row_form hrow
  have hrb : ∀ k, refB v = some k → v.ownBlock = some k := by
    rw [hform]
    intro k hk
    cases A with
    | none => cases hk
    | some a => exact hk
  refine ⟨_, v, w', h1, .inl rfl, fun i => if i = nb then v else ρ i, Zn, ?_⟩
  have h3 : St E nt (fun i => if i = nb then v else ρ i) Zn tm (upF bk [(b, .gone), (nb, .row e' sz' zs)]) a w' := by
    rw [upF_two]
    refine hs.upd (fun i => i = b ∨ i = nb) hg.os hg.tape hg.output hg.size (fun k hk ho => hkeep k hk (ho b (.inl rfl))) (fun i hi => if_neg (fun e => hi (.inr e))) (fun i hi => ?_) (fun i hi hnf => ?_) (fun _ h => h) (fun _ h => .inl h) (fun i hi m => ?_) (fun i k hi ho => ?_) (fun i j k hi hj ho ho' => ?_) rfl rfl (fun i => .inl ⟨rfl, rfl⟩) (fun i hi => by rcases hi with rfl | rfl; exact ⟨by rw [hbk]; rfl, by simp [isD]⟩; exact ⟨by rw [hf]; rfl, by by_cases h : i = b <;> simp [isD, h]⟩)
    · show (if i = b then _ else if i = nb then _ else bk i) = bk i
      rw [if_neg (fun e => hi (.inl e)), if_neg (fun e => hi (.inr e))]
    · rcases hi with rfl | rfl
      · show (if i = i then _ else _) ≠ Blk.fresh ∧ (if i = nb then v else ρ i) = ρ i
        rw [if_pos rfl, if_neg hne]
        exact ⟨by simp, rfl⟩
      · exact absurd hf hnf
    · rcases hi with rfl | rfl
      · show BlkOk _ _ _ _ _ (if i = i then _ else _)
        rw [if_pos rfl]; trivial
      · show BlkOk _ _ _ _ (if i = i then v else ρ i) (if i = b then _ else if i = i then _ else bk i)
        rw [if_pos rfl, if_neg (Ne.symm hne), if_pos rfl]
        exact hrow
    · rcases hi with rfl | rfl
      · have h4 : live (if i = i then Blk.gone else _) = true := ho.1
        rw [if_pos rfl] at h4; cases h4
      · have h4 : refB (if i = i then v else ρ i) = some k := ho.2
        rw [if_pos rfl] at h4
        rcases hv k (hrb k h4) with h5 | h5
        · exact ⟨.inl h5, fun hz => absurd (hs.zn _ hz).1 (by omega)⟩
        · exact ⟨.inr ⟨b, .inl rfl, ownk k h5⟩, (hs.out b k (ownk k h5)).2⟩
    · have dead : ¬ Own (fun i => if i = nb then v else ρ i) (fun i => if i = b then Blk.gone else if i = nb then .row e' sz' zs else bk i) b k := fun ho => by
        have h4 : live (if b = b then Blk.gone else _) = true := ho.1
        rw [if_pos rfl] at h4; cases h4
      rcases hi with rfl | rfl
      · exact absurd ho dead
      · rcases hj with rfl | rfl
        · exact absurd ho' dead
        · rfl
  rw [hd]
  refine h3.put hlt (rep_of_C (.inl ⟨?_, ?_, ?_⟩))
  · rw [upF_two]
    show (if nb = b then _ else if nb = nb then _ else _) ≠ Blk.fresh
    rw [if_neg (Ne.symm hne), if_pos rfl]; simp
  · simp
  · rw [hform]; rfl
theorem row_append {Zn : Nat → Prop} {w w' : World} {e sz : Nat} {v' : Value} {xs ys : List AV} {inner news : List Value} (h0 : 0 < sz) (hil : inner.length = xs.length * sz) (hlx : ∀ (j : Nat) (x : AV), xs[j]? = some x → x.leaves.length = sz) (hx : ∀ (j : Nat) (x : AV) (i : Nat) (lv : AV), xs[j]? = some x → x.leaves[i]? = some lv → ∃ q, inner[j * sz + i]? = some q ∧ RepV Zn w lv q)
    (hly : ∀ (j : Nat) (x : AV), ys[j]? = some x → x.leaves.length = sz) (hy : ∀ (j : Nat) (x : AV) (i : Nat) (lv : AV), ys[j]? = some x → x.leaves[i]? = some lv → ∃ q, news[j * sz + i]? = some q ∧ RepV Zn w lv q) (hown : ownsR w' 0 e sz v' (xs.length + ys.length) (inner ++ news)) (hz : ∀ k, Zn k → w'.heap[k]? = w.heap[k]?) : RowOk Zn w' e sz v' (xs ++ ys) := by
  refine ⟨h0, inner ++ news, by rw [List.length_append]; exact hown, fun j x hj => ?_, fun j x i lv hj hi => ?_⟩
  · rcases Nat.lt_or_ge j xs.length with h | h
    · rw [List.getElem?_append_left h] at hj; exact hlx j x hj
    · rw [List.getElem?_append_right h] at hj; exact hly _ x hj
  · rcases Nat.lt_or_ge j xs.length with h | h
    · rw [List.getElem?_append_left h] at hj
      obtain ⟨q, hq, hr⟩ := hx j x i lv hj hi
      refine ⟨q, ?_, hr.move hz (fun _ h => h)⟩
      rw [List.getElem?_append_left (List.getElem?_eq_some_iff.1 hq).1]
      exact hq
    · rw [List.getElem?_append_right h] at hj
      obtain ⟨q, hq, hr⟩ := hy _ x i lv hj hi
      refine ⟨q, ?_, hr.move hz (fun _ h => h)⟩
      have e1 : j * sz + i = inner.length + ((j - xs.length) * sz + i) := by
        rw [hil, Nat.sub_mul]
        have := Nat.mul_le_mul_right sz h
        omega
      rw [e1, List.getElem?_append_right (by omega), Nat.add_sub_cancel_left]
      exact hq
/-- append to a row of the call's own, whatever lies past its cells. -/
theorem append_R {w : World} {t ty e : TypeId} {i : TypeInfo} {z : Value} {size bytes : Nat} (ht : P.underlying t = some (.slice e)) (hi : P.info? e = some i) (hz : i.zero = some z) (hsize : i.size = size) (hby : i.bytes = bytes) (hzs : z.cells.size = size) (hsz : 0 < size)
    {v : Value} {n : Nat} {xs : List Value} (hown : ownsR w 0 e size v n xs) {a : Addr} {m c : Nat} {news : List Value} (hl : news.length = m * size) (hnews : ∀ j u, news[j]? = some u → w.cell? (a.add j) = some u) (h1 : ∀ u ∈ news, u.oneCell' = true)
    (h63 : n + m ≤ maxLen) (hbytes : (n + m) * bytes ≤ 140737488355328) :
    ∃ v' w', (Builtin.append_ #[t, t] ty #[v, .slice (some a) m c]).run P w = .ok v' w' ∧ ownsR w' 0 e size v' (n + m) (xs ++ news) ∧ w.grownBy w' v.ownBlock ∧ (v'.ownBlock = v.ownBlock ∨ v'.ownBlock = some w.heap.size) := by
  have plain : w.ownsRow 0 e size v n xs → ∃ v' w', (Builtin.append_ #[t, t] ty #[v, .slice (some a) m c]).run P w = .ok v' w' ∧ ownsR w' 0 e size v' (n + m) (xs ++ news) ∧ w.grownBy w' v.ownBlock ∧ (v'.ownBlock = v.ownBlock ∨ v'.ownBlock = some w.heap.size) := fun h => by
    obtain ⟨v', w', r1, r2, r3, _, r5⟩ := run_append_own_at (P := P) w 0 t ty e i z size bytes ht hi hz hsize hby hzs hsz v n xs h a m c news hl hnews h1 h63 hbytes (Nat.zero_le _)
    exact ⟨v', w', r1, ownsR.of r2, r3, r5⟩
  have hlen : (xs ++ news).length = (n + m) * size := by rw [List.length_append, hown.1, hl, Nat.add_mul]
  rcases hown.2 with ⟨rfl, rfl⟩ | ⟨g, cap, cur, rfl, hb, hg, hnc, hcm, hcs, htake⟩
  · exact plain ⟨hown.1, .inl ⟨rfl, rfl⟩⟩
  · obtain ⟨fz, hh, hf⟩ := id hg
    rcases hf with rfl | hf
    · exact plain ⟨hown.1, .inr ⟨g, cap, cur, rfl, hb, hh, hnc, hcm, hcs, htake⟩⟩
    · subst hsize
      subst hby
      by_cases hroom : n + m ≤ cap
      · have hfit : n * i.size + news.length ≤ cur.size := by rw [hl, hcs, ← Nat.add_mul]; exact Nat.mul_le_mul_right _ hroom
        have hfc := run_firstCells_some (P := P) w i.size m a m c news hl hnews
        have hst := store_R P news 0 hg (o := n * i.size) (by simpa using hfit) h1
        simp only [Nat.add_zero] at hst
        refine ⟨.slice (some ⟨g, 0, none⟩) (n + m) cap, _, by simp [Builtin.append_, run_underlying ht, sizeOf, typeInfo, hi, Builtin.lenOf, hroom, hfc, Addr.add_lit, hst], ⟨hlen, .inr ⟨g, cap, _, rfl, hb, setRow_R hg rfl hfit, hroom, hcm, ?_, ?_⟩⟩, ⟨rfl, rfl, rfl, by simp [World.setRow], fun k _ hk => setRow_other w g k _ (fun e => hk (by simp [Value.ownBlock, e]))⟩, .inl rfl⟩
        · simp only [List.size_toArray, List.length_append, List.length_take, List.length_drop, Array.length_toList]; omega
        · rw [htake, ← hlen]; exact List.take_left
      · have hr := run_append_grow (P := P) w t ty e i z ht hi hz ⟨g, 0, none⟩ n cap xs hown.1 (hown.cells (g := g) rfl) a m c news hl hnews (by omega) (by simp only [maxLen] at h63; omega) (growslice_fits (by omega) hbytes)
        have hge := grownCap_ge w (n + m) cap e
        refine ⟨_, _, hr, ⟨hlen, .inr ⟨w.heap.size, _, _, rfl, Nat.zero_le _, ⟨(0, 0), heap_alloc_new w.drew _, .inl rfl⟩, hge, grownCap_le_maxLen w (n + m) cap e h63, ?_, ?_⟩⟩, ⟨rfl, rfl, rfl, by simp, fun k hk _ => heap_alloc_old w.drew _ k hk⟩, .inr rfl⟩
        · simp only [Array.size_append, List.size_toArray, size_zeroCells, hzs, hown.1, hl, ← Nat.add_mul]
          congr 1; omega
        · simp only [Array.toList_append, List.append_assoc]
          rw [← List.append_assoc, ← hlen]; exact List.take_left
theorem run_append_nil0 {T ty e : TypeId} {i : TypeInfo} {v : Value} {n size base : Nat} {xs : List Value} {w : World} (ht : P.underlying T = some (.slice e)) (hi : P.info? e = some i) (hown : ownsR w base e size v n xs) (c : Nat) : (Builtin.append_ #[T, T] ty #[v, .slice none 0 c]).run P w = .ok v w := by
  rcases hown.2 with ⟨rfl, rfl⟩ | ⟨g, cap, cur, rfl, _, _, hnc, _⟩
  · simp [Builtin.append_, run_underlying ht, sizeOf, typeInfo, hi, Builtin.lenOf, Builtin.firstCells]
  · simp [Builtin.append_, run_underlying ht, sizeOf, typeInfo, hi, Builtin.lenOf, Builtin.firstCells, hnc, storeCells]
/-- append's run, whatever is appended. -/
theorem append_run {T ty e sz bytes : Nat} {zs : List Value} {v u : Value} {xs ys : List AV} {w : World} {Zn : Nat → Prop} (hT : sliceT P T e sz = true) (hz : zeroOf P e = some zs) (hzl : Nat.beq zs.length sz = true) (hby : bytesIs P e bytes = true) (hb0 : Nat.blt 0 bytes = true) (hrow : RowOk Zn w e sz v xs)
    (hu : (u = .slice none 0 0 ∧ ys = []) ∨ ∃ A c, u = .slice A ys.length c ∧ (0 < ys.length → ∃ ad, A = some ad) ∧ (∀ (j : Nat) (x : AV), ys[j]? = some x → x.leaves.length = sz) ∧ ∀ ad, A = some ad → ∀ (j : Nat) (x : AV) (i : Nat) (lv : AV), ys[j]? = some x → x.leaves[i]? = some lv → ∃ q, w.cell? (ad.add (j * sz + i)) = some q ∧ RepV Zn w lv q)
    (hlen : (xs.length + ys.length) * bytes ≤ 140737488355328) : ∃ v' w', (Builtin.append_ #[T, T] ty #[v, u]).run P w = .ok v' w' ∧ w.grownBy w' v.ownBlock ∧ (∀ k, v'.ownBlock = some k → w.heap.size ≤ k ∨ v.ownBlock = some k) ∧ ((∀ k, Zn k → w'.heap[k]? = w.heap[k]?) → RowOk Zn w' e sz v' (xs ++ ys)) := by
  obtain ⟨hu', hsi⟩ := sliceT_of hT
  have hzl := beq_t hzl
  obtain ⟨h0, inner, hown, hl, hr⟩ := hrow
  unfold zeroOf at hz
  unfold bytesIs at hby
  unfold sizeIs at hsi
  cases hi : P.info? e with
  | none => rw [hi] at hz; cases hz
  | some i =>
    rw [hi] at hz hby hsi
    simp only at hz
    cases hzz : i.zero with
    | none => rw [hzz] at hz; cases hz
    | some z =>
      rw [hzz] at hz
      injection hz with hz
      have hb0' : 0 < bytes := Nat.blt_eq ▸ hb0
      have hmax : xs.length + ys.length ≤ maxLen := by
        have : xs.length + ys.length ≤ (xs.length + ys.length) * bytes := Nat.le_mul_of_pos_right _ hb0'
        simp only [maxLen]; omega
      have none_case : ∀ c, ys = [] → ∃ v' w', (Builtin.append_ #[T, T] ty #[v, .slice none 0 c]).run P w = .ok v' w' ∧ w.grownBy w' v.ownBlock ∧ (∀ k, v'.ownBlock = some k → w.heap.size ≤ k ∨ v.ownBlock = some k) ∧ ((∀ k, Zn k → w'.heap[k]? = w.heap[k]?) → RowOk Zn w' e sz v' (xs ++ ys)) := by
        intro c hy
        subst hy
        refine ⟨v, w, run_append_nil0 hu' hi hown c, ⟨rfl, rfl, rfl, Nat.le_refl _, fun _ _ _ => rfl⟩, fun k hk => .inr hk, fun _ => ?_⟩
        rw [List.append_nil]
        exact ⟨h0, inner, hown, hl, hr⟩
      rcases hu with ⟨rfl, hy⟩ | ⟨A, c, rfl, hA, hly, hcy⟩
      · exact none_case 0 hy
      · cases A with
        | none =>
          have hy : ys = [] := by
            cases ys with
            | nil => rfl
            | cons y ys => obtain ⟨ad, h⟩ := hA (by simp); cases h
          subst hy
          exact none_case c rfl
        | some ad =>
          obtain ⟨news, n1, n2, n3, n4⟩ := news_of h0 hly (hcy ad rfl)
          obtain ⟨v', w', r1, r2, r3, r5⟩ := append_R (P := P) (ty := ty) (c := c) hu' hi hzz (beq_t hsi) (beq_t hby) (by rw [← hzl, ← hz]; simp) h0 hown n1 n2 n3 hmax hlen
          refine ⟨v', w', r1, r3, fun k hk => ?_, fun hzk => row_append h0 hown.1 hl hr hly n4 r2 hzk⟩
          rcases r5 with r5 | r5
          · exact .inr (r5 ▸ hk)
          · rw [r5] at hk; injection hk with hk; exact .inl (by omega)
theorem append_exec {x y : Operand} {Ts : Array TypeId} {ρ : Operand → Value} {w w' : World} {v : Value} (hop : o.op = .call { callee := .builtin .append, args := #[x, y], argTypes := Ts }) (h : (Builtin.append_ Ts o.type #[ρ x, ρ y]).run P w = .ok v w') : (execOp ρ o).run P w = .ok (.value v) w' := by
  unfold execOp
  simp only [hop, resolve]
  rw [Sem.run_bind, Sem.run_pure, Result.andThen_ok]
  simp only [invoke, builtin]
  rw [Sem.run_bind]
  have : (#[x, y] : Array Operand).map ρ = #[ρ x, ρ y] := by simp
  rw [this, h]
  rfl
/-- append to a row of the call's own. -/
theorem r_app {T e sz bytes b nb : Nat} {x y : Operand} {p : AV} {zs : List Value} {xs ys zz : List AV} {tl : List Nat} (hop : o.op = .call { callee := .builtin .append, args := #[x, y], argTypes := #[T, T] }) (hd : o.dst = some d) (hlt : Nat.blt d nt = true) (hnb : gB s.bk nb = .fresh) (hx : opd s x = .row b) (hb : gB s.bk b = .row e sz xs) (hy : opd s y = p) (hn : Nw s sz p ys tl) (hT : sliceT P T e sz = true) (hz : zeroOf P e = some zs) (hzl : Nat.beq zs.length sz = true) (hby : bytesIs P e bytes = true) (hb0 : Nat.blt 0 bytes = true)
    (hlen : (xs.length + ys.length) * bytes ≤ 140737488355328) (hzz : xs ++ ys = zz) : Okv P E nt o s ⟨some d, .row nb, [(b, .gone), (nb, .row e sz zz)]⟩ (lkO x ++ lkO y) (nb :: b :: tl) :=
  okv_grow hd hlt hnb hb fun tm bk ρ Zn a w hag hs hrow => by
    have h1 := St.opd (s := s) hs x (fun t ht => hag.1 t (List.mem_append_left _ ht))
    have h2 := St.opd (s := s) hs y (fun t ht => hag.1 t (List.mem_append_right _ ht))
    rw [hx] at h1
    rw [hy] at h2
    obtain ⟨_, h3, _⟩ := rep_C00 h1 rfl
    have h4 := hn.ok hs (fun b hb => hag.2 b (List.mem_cons_of_mem _ (List.mem_cons_of_mem _ hb))) h2
    obtain ⟨v', w', r1, r2, r3, r4⟩ := append_run (P := P) (ty := o.type) hT hz hzl hby hb0 hrow h4 hlen
    exact ⟨v', w', append_exec hop (by rw [h3]; exact r1), r2, r3, fun hz => hzz ▸ r4 hz⟩
/-- append to nil. -/
theorem r_app0 {T e sz bytes nb : Nat} {x y : Operand} {p : AV} {zs : List Value} {ys : List AV} {tl : List Nat} (hop : o.op = .call { callee := .builtin .append, args := #[x, y], argTypes := #[T, T] }) (hd : o.dst = some d) (hlt : Nat.blt d nt = true) (hnb : gB s.bk nb = .fresh) (hx : opd s x = .lit (.slice none 0 0)) (hy : opd s y = p) (hn : Nw s sz p ys tl) (hT : sliceT P T e sz = true) (hz : zeroOf P e = some zs) (hzl : Nat.beq zs.length sz = true) (hsz : Nat.blt 0 sz = true) (hby : bytesIs P e bytes = true) (hb0 : Nat.blt 0 bytes = true)
    (hlen : ys.length * bytes ≤ 140737488355328) : Okv P E nt o s ⟨some d, .row nb, [(nb, .row e sz ys)]⟩ (lkO x ++ lkO y) (nb :: tl) :=
  okv_row hd hlt hnb fun tm bk ρ Zn a w hag hs => by
    have h1 := St.opd (s := s) hs x (fun t ht => hag.1 t (List.mem_append_left _ ht))
    have h2 := St.opd (s := s) hs y (fun t ht => hag.1 t (List.mem_append_right _ ht))
    rw [hx] at h1
    rw [hy] at h2
    have h3 := rep_lit h1
    have h4 := hn.ok hs (fun b hb => hag.2 b (List.mem_cons_of_mem _ hb)) h2
    have hrow : RowOk Zn w e sz (.slice none 0 0) [] := ⟨Nat.blt_eq ▸ hsz, [], ownsR_nil w 0 e sz, fun j x h => by simp at h, fun j x i lv h => by simp at h⟩
    obtain ⟨v', w', r1, r2, r3, r4⟩ := append_run (P := P) (ty := o.type) hT hz hzl hby hb0 hrow h4 (by simpa using hlen)
    refine ⟨v', w', append_exec hop (by rw [h3]; exact r1), r2, fun k hk => ?_, ?_⟩
    · rcases r3 k hk with h | h
      · exact h
      · cases h
    · have := r4 (fun k hk => r2.block k (hs.zn k hk).1 (by simp [Value.ownBlock]))
      simpa using this
end
end Go.Proofs.YtahmbcgolnplgaaDoorA
