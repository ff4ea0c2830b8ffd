/- The abstract machine, twenty-fourth part: deep rows, turns of the state alone. No claim lies here. -/
import Derived.Test.YtahmbcgolnplgaaDoorA23
set_option linter.unusedVariables false
set_option linter.unusedSimpArgs false
namespace Go.Proofs.YtahmbcgolnplgaaDoorA
open Go Go.RowKit
section
variable {E : Env} {nt : Nat} {ρ ρ' : Nat → Value} {Zn : Nat → Prop} {tm : Nat → AV} {bk bk' : Nat → Blk} {a : Act} {w : World}
/-- A turn of the state alone. -/
theorem St.gh (h : St E nt ρ Zn tm bk a w) {ω : Nat → Tr} (d : DeepOk E Zn ρ ω bk w) (ω' : Nat → Tr) (U : Nat → Prop)
    (hρ : ∀ b, ¬ U b → ρ' b = ρ b) (hb : ∀ b, ¬ U b → bk' b = bk b) (hω : ∀ b, ¬ U b → ω' b = ω b)
    (hU : ∀ b, U b → bk b ≠ .fresh → bk' b ≠ .fresh ∧ ρ' b = ρ b)
    (hB : ∀ b, U b → Mv (fz E Zn) (fz E Zn) w w ρ ρ' bk bk' → BlkOk (fz E Zn) w ρ' bk' (ρ' b) (bk' b))
    (hR : ∀ b op ds e sz xs, U b → Mv (fz E Zn) (fz E Zn) w w ρ ρ' bk bk' → bk' b = .drow op ds e sz xs → RowD (fz E Zn) w ρ' bk' op ds (ω' b) e sz (ρ' b) xs)
    (hT : ∀ b, U b → isD (bk' b) = true → TreeOk (ρ' b) (ω' b))
    (hO : ∀ b k, U b → OwnD ρ' ω' bk' b k → ∃ b0, U b0 ∧ OwnD ρ ω bk b0 k)
    (hS : ∀ b b' k, U b → U b' → OwnD ρ' ω' bk' b k → OwnD ρ' ω' bk' b' k → b = b') : St E nt ρ' Zn tm bk' a w :=
  h.updD d ω' U rfl rfl rfl (Nat.le_refl _) (fun _ _ _ => rfl) hρ hb hω hU (fun _ h => h) (fun _ h => .inl h) hB hR hT
    (fun b k hu ho => by obtain ⟨b0, hu0, ho0⟩ := hO b k hu ho; exact ⟨.inr ⟨b0, hu0, ho0⟩, (d.out b0 k ho0).2⟩)
    (fun b k hu ho _ => by obtain ⟨b0, hu0, ho0⟩ := hO b k hu ho; exact d.lt b0 k ho0) hS rfl rfl (fun i => .inl ⟨rfl, rfl⟩)
end
/-! Turns, ahead of a step or between steps. -/
def Gh (E : Env) (nt : Nat) (s : S) (ups : List (Nat × Blk)) (tl : List Nat) : Prop := ∀ tm bk, (∀ b ∈ tl, bk b = gB s.bk b) → ∀ a w, RelF E nt tm bk a w → RelF E nt tm (upF bk ups) a w
theorem upF_app (bk : Nat → Blk) (l m : List (Nat × Blk)) : upF bk (l ++ m) = upF (upF bk m) l := by
  funext i
  unfold upF
  rw [gBo_append]
  cases gBo l i <;> rfl
theorem agree_gh {s : S} {ups : List (Nat × Blk)} {lk tl tl2 : List Nat} {tm : Nat → AV} {bk : Nat → Blk} (h : Agree s lk (tl ++ tl2) tm bk) : Agree ⟨s.tm, ups ++ s.bk⟩ lk tl2 tm (upF bk ups) := by
  refine ⟨h.1, fun b hb => ?_⟩
  show upF bk ups b = gB (ups ++ s.bk) b
  rw [gB_append]
  unfold upF
  rw [h.2 b (List.mem_append_right _ hb)]
section
variable {P : Program} {Q : Exit → Act → World → Prop} {E : Env} {nt : Nat} {s : S} {o : Oper}
theorem Gh.then {u1 u2 : List (Nat × Blk)} {t1 t2 : List Nat} (h1 : Gh E nt s u1 t1) (h2 : Gh E nt ⟨s.tm, u1 ++ s.bk⟩ u2 t2) : Gh E nt s (u2 ++ u1) (t1 ++ t2) := by
  intro tm bk hag a w hr
  rw [upF_app]
  refine h2 tm (upF bk u1) (fun b hb => ?_) a w (h1 tm bk (fun b hb => hag b (List.mem_append_left _ hb)) a w hr)
  show upF bk u1 b = gB (u1 ++ s.bk) b
  rw [gB_append]
  unfold upF
  rw [hag b (List.mem_append_right _ hb)]
theorem okv_gh {c : LA} {ups : List (Nat × Blk)} {lk tl tl2 : List Nat} (h : Gh E nt s ups tl) (hk : Okv P E nt o ⟨s.tm, ups ++ s.bk⟩ c lk tl2) : Okv P E nt o s ⟨c.dst, c.out, c.ups ++ ups⟩ lk (tl ++ tl2) := by
  intro tm bk hag a w hr
  have h1 := h tm bk (fun b hb => hag.2 b (List.mem_append_left _ hb)) a w hr
  obtain ⟨n, v, w', h2, h3, h4⟩ := hk tm (upF bk ups) (agree_gh hag) a w h1
  refine ⟨n, v, w', h2, h3, ?_⟩
  rw [upF_app]
  exact h4
theorem owp_gh {c : LA} {ups : List (Nat × Blk)} {lk tl tl2 : List Nat} (h : Gh E nt s ups tl) (hk : Owp P Q E nt o ⟨s.tm, ups ++ s.bk⟩ c lk tl2) : Owp P Q E nt o s ⟨c.dst, c.out, c.ups ++ ups⟩ lk (tl ++ tl2) := by
  intro tm bk hag K a w hr hK
  have h1 := h tm bk (fun b hb => hag.2 b (List.mem_append_left _ hb)) a w hr
  refine hk tm (upF bk ups) (agree_gh hag) K a w h1 (fun a' w' h' => hK a' w' ?_)
  rw [upF_app]
  exact h'
theorem ac_gh {tm : List (Nat × AV)} {bk : List (Nat × Blk)} {K : Act → World → Prop} {ups : List (Nat × Blk)} {tl : List Nat} (h : Gh E nt ⟨tm, bk⟩ ups tl) (hk : ACont E nt ⟨tm, ups ++ bk⟩ K) : ACont E nt ⟨tm, bk⟩ K := by
  intro a w hr
  refine hk a w ?_
  have h1 := h (gT tm) (gB bk) (fun _ _ => rfl) a w hr
  show RelF E nt (gT tm) (gB (ups ++ bk)) a w
  rw [gB_append]
  exact h1
end

/-! Trees. -/
def Tr.cut (t : Tr) (q : Nat) : Tr := fun p => match p with
  | [] => t []
  | x :: r => if x = q then none else t (x :: r)
def Tr.put (t : Tr) (q : Nat) (c : Tr) : Tr := fun p => match p with
  | [] => t []
  | x :: r => if x = q then c r else t (x :: r)
theorem cut_sub (t : Tr) {q x : Nat} (h : x ≠ q) : (t.cut q).sub x = t.sub x := by
  funext p
  show (if x = q then none else t (x :: p)) = t (x :: p)
  rw [if_neg h]
theorem put_sub (t : Tr) {q x : Nat} {c : Tr} (h : x ≠ q) : (t.put q c).sub x = t.sub x := by
  funext p
  show (if x = q then c p else t (x :: p)) = t (x :: p)
  rw [if_neg h]
theorem put_at (t : Tr) {q : Nat} {c : Tr} : (t.put q c).sub q = c := by
  funext p
  show (if q = q then c p else t (q :: p)) = c p
  rw [if_pos rfl]
theorem cut_some {t : Tr} {q i k : Nat} {p : List Nat} (h : t.cut q (i :: p) = some k) : i ≠ q ∧ t (i :: p) = some k := by
  have h' : (if i = q then none else t (i :: p)) = some k := h
  by_cases e : i = q
  · rw [if_pos e] at h'; cases h'
  · rw [if_neg e] at h'; exact ⟨e, h'⟩
theorem idx_ne {sz i j i' j' : Nat} (hi : i < sz) (hi' : i' < sz) (h : ¬ (j' = j ∧ i' = i)) : j' * sz + i' ≠ j * sz + i := by
  intro e
  apply h
  rcases Nat.lt_trichotomy j' j with hl | hl | hl
  · have := Nat.mul_le_mul_right sz hl
    rw [Nat.succ_mul] at this; omega
  · subst hl; exact ⟨rfl, by omega⟩
  · have := Nat.mul_le_mul_right sz hl
    rw [Nat.succ_mul] at this; omega
section
variable {Zf : Fl → Nat → Prop} {w : World} {ρ ρ' : Nat → Value} {bk bk' : Nat → Blk}
theorem LfD.mv (m : Mv Zf Zf w w ρ ρ' bk bk') {op op' : Bool} (hop : op = true → op' = true) {t : Tr} {d : Ds} {lv : AV} {u : Value} (h : LfD Zf w ρ bk op t d lv u) : LfD Zf w ρ' bk' op' t d lv u := by
  rcases h with h | ⟨c, h0, h1, h2, h3, h4⟩
  · exact .inl h
  · exact .inr ⟨c, hop h0, h1, (m.hr c h2).1, h3.trans (m.hr c h2).2.symm, h4⟩
/-- One leaf is told otherwise. -/
theorem RowD.setLeaf {op op' : Bool} {ds : List Ds} {t t' : Tr} {e sz : Nat} {v : Value} {xs : List AV} {inner : List Value} (h0 : 0 < sz) (ho : ownsR w 0 e sz v xs.length inner) (hl : ∀ (j : Nat) (x : AV), xs[j]? = some x → x.leaves.length = sz)
    (hr : ∀ (j : Nat) (x : AV) (i : Nat) (lv : AV), xs[j]? = some x → x.leaves[i]? = some lv → ∃ u, inner[j * sz + i]? = some u ∧ LfD Zf w ρ bk op (t.sub (j * sz + i)) (ds.getD i .v) lv u) (m : Mv Zf Zf w w ρ ρ' bk bk') (hop : op = true → op' = true) {i j : Nat} {X X' lv0 lv1 : AV} (hx : xs[i]? = some X) (hj : X.leaves[j]? = some lv0) (hX : X'.leaves = X.leaves.set j lv1)
    (ht : ∀ x, x ≠ i * sz + j → t'.sub x = t.sub x) (hnew : ∀ u, inner[i * sz + j]? = some u → LfD Zf w ρ bk op (t.sub (i * sz + j)) (ds.getD j .v) lv0 u → LfD Zf w ρ' bk' op' (t'.sub (i * sz + j)) (ds.getD j .v) lv1 u) : RowD Zf w ρ' bk' op' ds t' e sz v (xs.set i X') := by
  have hi := (List.getElem?_eq_some_iff.1 hx).1
  have hlX := hl i X hx
  have hjs : j < sz := by rw [← hlX]; exact (List.getElem?_eq_some_iff.1 hj).1
  refine ⟨h0, inner, by rw [List.length_set]; exact ho, fun q x hq => ?_, fun q x k lv hq hk => ?_⟩
  · by_cases e : i = q
    · subst e
      rw [List.getElem?_set_self hi] at hq
      injection hq with hq
      subst hq
      rw [hX, List.length_set]; exact hlX
    · rw [List.getElem?_set_ne e] at hq; exact hl q x hq
  · by_cases e : i = q
    · subst e
      rw [List.getElem?_set_self hi] at hq
      injection hq with hq
      subst hq
      rw [hX] at hk
      by_cases e' : j = k
      · subst e'
        rw [List.getElem?_set_self (by rw [hlX]; exact hjs)] at hk
        injection hk with hk
        subst hk
        obtain ⟨u, hu, hv⟩ := hr i X j lv0 hx hj
        exact ⟨u, hu, hnew u hu hv⟩
      · rw [List.getElem?_set_ne e'] at hk
        obtain ⟨u, hu, hv⟩ := hr i X k lv hx hk
        refine ⟨u, hu, ?_⟩
        rw [ht _ (by omega)]
        exact hv.mv m hop
    · rw [List.getElem?_set_ne e] at hq
      obtain ⟨u, hu, hv⟩ := hr q x k lv hq hk
      refine ⟨u, hu, ?_⟩
      have hk' : k < sz := by rw [← hl q x hq]; exact (List.getElem?_eq_some_iff.1 hk).1
      rw [ht _ (idx_ne hjs hk' (fun h => e h.1.symm))]
      exact hv.mv m hop
end
/-- A row that is told by what its leaves are. -/
def blkOf (ds : List Ds) (e sz : Nat) (xs : List AV) : Blk := match ds with
  | [] => .row e sz xs
  | _ :: _ => .drow false ds e sz xs
theorem blkOf_live {ds : List Ds} {e sz : Nat} {xs : List AV} : live (blkOf ds e sz xs) = true := by cases ds <;> rfl
theorem blkOf_nf {ds : List Ds} {e sz : Nat} {xs : List AV} : blkOf ds e sz xs ≠ .fresh := by cases ds <;> exact fun h => by cases h
theorem blkOf_op {ds ds' : List Ds} {e sz e' sz' : Nat} {xs ys : List AV} : blkOf ds e sz xs ≠ .drow true ds' e' sz' ys := by cases ds <;> exact fun h => by cases h
section
variable {E : Env} {nt : Nat} {s : S}
/-- A leaf is taken out as a block. -/
theorem gh_take {op : Bool} {ds ds' : List Ds} {b c e sz e' sz' i j : Nat} {z : Fl} {xs ys zz : List AV} {X X' : AV} (hb : gB s.bk b = .drow op ds e sz xs) (hc : gB s.bk c = .fresh) (hx : xs[i]? = some X) (hj : X.leaves[j]? = some (.sl z sz' ys)) (hd : ds.getD j .v = .own e' ds') (hX : X'.leaves = X.leaves.set j (.row c)) (hz : xs.set i X' = zz) :
    Gh E nt s [(b, .drow true ds e sz zz), (c, blkOf ds' e' sz' ys)] [b, c] := by
  subst hz
  intro tm bk hag a w ⟨ρ, Zn, hs⟩
  obtain ⟨ω, d⟩ := hs.deep
  have hbk : bk b = .drow op ds e sz xs := (hag b List.mem_cons_self).trans hb
  have hck : bk c = .fresh := (hag c (List.mem_cons_of_mem _ List.mem_cons_self)).trans hc
  have hne : b ≠ c := fun e => by rw [e, hck] at hbk; cases hbk
  obtain ⟨h0, inner, ho, hl, hr⟩ := d.row b _ _ _ _ _ hbk
  obtain ⟨u, hu, hv⟩ := hr i X j _ hx hj
  have hlv : Lv (fz E Zn .n) w ((ω b).sub (i * sz + j)) (.own e' ds') (.sl z sz' ys) u := by
    rcases hv with hv | ⟨_, _, h1, _⟩
    · rw [hd] at hv; exact hv
    · cases h1
  obtain ⟨bk', hbk', k1, k2, k3⟩ : ∃ bk' : Nat → Blk, upF bk [(b, .drow true ds e sz (xs.set i X')), (c, blkOf ds' e' sz' ys)] = bk' ∧ bk' b = .drow true ds e sz (xs.set i X') ∧ bk' c = blkOf ds' e' sz' ys ∧ ∀ x, x ≠ b → x ≠ c → bk' x = bk x := ⟨_, upF_two .., if_pos rfl, (if_neg (Ne.symm hne)).trans (if_pos rfl), fun x h1 h2 => (if_neg h1).trans (if_neg h2)⟩
  obtain ⟨ρ', e1, e2⟩ : ∃ ρ' : Nat → Value, ρ' c = u ∧ ∀ x, x ≠ c → ρ' x = ρ x := ⟨fun x => if x = c then u else ρ x, if_pos rfl, fun x h => if_neg h⟩
  obtain ⟨ω', o1, o2, o3⟩ : ∃ ω' : Nat → Tr, ω' c = (ω b).sub (i * sz + j) ∧ ω' b = (ω b).cut (i * sz + j) ∧ ∀ x, x ≠ b → x ≠ c → ω' x = ω x := ⟨fun x => if x = c then (ω b).sub (i * sz + j) else if x = b then (ω b).cut (i * sz + j) else ω x, if_pos rfl, (if_neg hne).trans (if_pos rfl), fun x h1 h2 => (if_neg h2).trans (if_neg h1)⟩
  have hlive : live (bk b) = true := by rw [hbk]; rfl
  have hisD : isD (bk b) = true := by rw [hbk]; rfl
  have hrb : refB u = ω b [i * sz + j] := by cases hlv with | own _ _ _ _ h => exact h
  have ownc : ∀ k, OwnD ρ' ω' bk' c k → ∃ p, ω b ((i * sz + j) :: p) = some k := fun k hk => by
    have h2 := hk.2
    rw [e1, o1] at h2
    rcases h2 with h2 | ⟨_, i', p, h2⟩
    · exact ⟨[], by rw [← hrb]; exact h2⟩
    · exact ⟨i' :: p, h2⟩
  have ownb : ∀ k, OwnD ρ' ω' bk' b k → refB (ρ b) = some k ∨ ∃ x p, x ≠ i * sz + j ∧ ω b (x :: p) = some k := fun k hk => by
    have h2 := hk.2
    rw [e2 b hne, o2] at h2
    rcases h2 with h2 | ⟨_, i', p, h2⟩
    · exact .inl h2
    · obtain ⟨h3, h4⟩ := cut_some h2; exact .inr ⟨i', p, h3, h4⟩
  have tr := d.tree b hisD
  rw [hbk']
  refine ⟨ρ', Zn, hs.gh d ω' (fun x => x = b ∨ x = c) (fun x hx => e2 x fun e => hx (.inr e)) (fun x hx => k3 x (fun e => hx (.inl e)) (fun e => hx (.inr e))) (fun x hx => o3 x (fun e => hx (.inl e)) (fun e => hx (.inr e))) (fun x hx hnf => ?_) (fun x hx m => ?_) (fun x op' ds1 e3 sz1 xs1 hx m hbx => ?_) (fun x hx hdx => ?_) (fun x k hx hk => ?_) (fun x y k hx hy hk hk' => ?_)⟩
  · rcases hx with rfl | rfl
    · rw [k1]; exact ⟨(fun h => by cases h), e2 _ hne⟩
    · exact absurd hck hnf
  · rcases hx with rfl | rfl
    · rw [k1]; trivial
    · rw [k2, e1]
      cases ds' with
      | cons _ _ => trivial
      | nil =>
        cases hlv with
        | own inner' g h0' ho' hr' hl' hc' hv' =>
          refine ⟨h0', inner', ho', hl', fun j' x' i' lv hj' hi' => ⟨_, hc' j' x' i' lv hj' hi', ?_⟩⟩
          have h9 := hv' j' x' i' lv hj' hi'
          generalize g j' i' = gv at h9
          generalize hq : ([] : List Ds).getD i' .v = dd at h9
          have hq' : dd = .v := by rw [← hq]; simp
          subst hq'
          cases h9 with
          | v h9 => exact h9
          | junk h9 => exact .junk h9
  · rcases hx with rfl | rfl
    · rw [k1] at hbx
      injection hbx with a1 a2 a3 a4 a5
      subst a1; subst a2; subst a3; subst a4; subst a5
      rw [e2 _ hne, o2]
      refine RowD.setLeaf h0 ho hl hr m (fun _ => rfl) hx hj hX (fun x hx => cut_sub _ hx) (fun u' hu1 hu' => ?_)
      rw [hu] at hu1
      injection hu1 with hu1
      subst hu1
      exact .inr ⟨c, rfl, rfl, by rw [k2]; exact blkOf_nf, e1.symm, hlv.one⟩
    · rw [k2] at hbx
      rw [e1, o1]
      cases ds' with
      | nil => cases hbx
      | cons d0 dr =>
        injection hbx with a1 a2 a3 a4 a5
        subst a1; subst a2; subst a3; subst a4; subst a5
        cases hlv with
        | own inner' g h0' ho' hr' hl' hc' hv' => exact ⟨h0', inner', ho', hl', fun j' x' i' lv hj' hi' => ⟨_, hc' j' x' i' lv hj' hi', .inl (hv' j' x' i' lv hj' hi')⟩⟩
  · rcases hx with rfl | rfl
    · rw [e2 _ hne, o2]
      exact ⟨fun i' p k hk => tr.1 i' p k (cut_some hk).2, fun i' p j' q k hk hk' => tr.2 i' p j' q k (cut_some hk).2 (cut_some hk').2⟩
    · rw [e1, o1]
      refine ⟨fun i' p k hk hk' => ?_, fun i' p j' q k hk hk' => ?_⟩
      · rw [hrb] at hk'
        have := (tr.2 _ _ _ _ k hk hk').2
        cases this
      · have := (tr.2 _ _ _ _ k hk hk').2
        injection this with h1 h2
        exact ⟨h1, h2⟩
  · rcases hx with rfl | rfl
    · refine ⟨x, .inl rfl, hlive, ?_⟩
      rcases ownb k hk with h | ⟨y, p, _, h⟩
      · exact .inl h
      · exact .inr ⟨hisD, y, p, h⟩
    · obtain ⟨p, hp⟩ := ownc k hk
      exact ⟨b, .inl rfl, hlive, .inr ⟨hisD, _, p, hp⟩⟩
  · have key : ∀ k, OwnD ρ' ω' bk' b k → OwnD ρ' ω' bk' c k → False := fun k h1 h2 => by
      obtain ⟨p, hp⟩ := ownc k h2
      rcases ownb k h1 with h | ⟨x, p', hx, h⟩
      · exact tr.1 _ _ k hp h
      · exact hx (tr.2 _ _ _ _ k h hp).1
    rcases hx with rfl | rfl <;> rcases hy with rfl | rfl
    · rfl
    · exact (key k hk hk').elim
    · exact (key k hk' hk).elim
    · rfl
/-- An open leaf's block is packed again. -/
theorem gh_pack {ds ds' : List Ds} {b c e sz e' sz' i j : Nat} {xs ys zz : List AV} {X X' : AV} (hb : gB s.bk b = .drow true ds e sz xs) (hc : gB s.bk c = blkOf ds' e' sz' ys) (hx : xs[i]? = some X) (hj : X.leaves[j]? = some (.row c)) (hd : ds.getD j .v = .own e' ds') (hX : X'.leaves = X.leaves.set j (.sl .n sz' ys)) (hz : xs.set i X' = zz) :
    Gh E nt s [(b, .drow true ds e sz zz), (c, .gone)] [b, c] := by
  subst hz
  intro tm bk hag a w ⟨ρ, Zn, hs⟩
  obtain ⟨ω, d⟩ := hs.deep
  have hbk : bk b = .drow true ds e sz xs := (hag b List.mem_cons_self).trans hb
  have hck : bk c = blkOf ds' e' sz' ys := (hag c (List.mem_cons_of_mem _ List.mem_cons_self)).trans hc
  have hne : b ≠ c := fun e => by rw [e, hck] at hbk; exact blkOf_op hbk
  obtain ⟨h0, inner, ho, hl, hr⟩ := d.row b _ _ _ _ _ hbk
  have hlive : live (bk b) = true := by rw [hbk]; rfl
  have hisD : isD (bk b) = true := by rw [hbk]; rfl
  have hlc : live (bk c) = true := by rw [hck]; exact blkOf_live
  obtain ⟨tc, htc⟩ : ∃ tc : Tr, tc = fun p => match p with | [] => refB (ρ c) | x :: r => if isD (bk c) = true then ω c (x :: r) else none := ⟨_, rfl⟩
  have tc0 : tc [] = refB (ρ c) := by rw [htc]
  have tc1 : ∀ x r, tc (x :: r) = if isD (bk c) = true then ω c (x :: r) else none := fun x r => by rw [htc]
  have owntc : ∀ p k, tc p = some k → OwnD ρ ω bk c k := fun p k hp => by
    cases p with
    | nil => exact ⟨hlc, .inl (tc0 ▸ hp)⟩
    | cons x r =>
      rw [tc1] at hp
      split at hp
      · rename_i hD; exact ⟨hlc, .inr ⟨hD, x, r, hp⟩⟩
      · cases hp
  have lvc : Lv (fz E Zn .n) w tc (.own e' ds') (.sl .n sz' ys) (ρ c) := by
    cases ds' with
    | nil =>
      have hb2 := hs.blk c
      rw [hck] at hb2
      obtain ⟨h0', inner', ho', hl', hr'⟩ := hb2
      refine .own inner' (fun j i => (inner'[j * sz' + i]?).getD undef) h0' ho' tc0.symm hl' (fun j' x' i' lv hj' hi' => ?_) (fun j' x' i' lv hj' hi' => ?_)
      · obtain ⟨u, hu, _⟩ := hr' j' x' i' lv hj' hi'
        rw [hu]; rfl
      · obtain ⟨u, hu, hv⟩ := hr' j' x' i' lv hj' hi'
        rw [hu]
        have : ([] : List Ds).getD i' .v = .v := by simp
        rw [this]
        exact .v hv
    | cons d0 dr =>
      obtain ⟨h0', inner', ho', hl', hr'⟩ := d.row c _ _ _ _ _ hck
      have hD : isD (bk c) = true := by rw [hck]; rfl
      have hsub : ∀ x, tc.sub x = (ω c).sub x := fun x => by
        funext r
        show tc (x :: r) = ω c (x :: r)
        rw [tc1, if_pos hD]
      refine .own inner' (fun j i => (inner'[j * sz' + i]?).getD undef) h0' ho' tc0.symm hl' (fun j' x' i' lv hj' hi' => ?_) (fun j' x' i' lv hj' hi' => ?_)
      · obtain ⟨u, hu, _⟩ := hr' j' x' i' lv hj' hi'
        rw [hu]; rfl
      · obtain ⟨u, hu, hv⟩ := hr' j' x' i' lv hj' hi'
        rw [hu, hsub]
        rcases hv with hv | ⟨_, h1, _⟩
        · exact hv
        · cases h1
  obtain ⟨bk', hbk', k1, k2, k3⟩ : ∃ bk' : Nat → Blk, upF bk [(b, .drow true ds e sz (xs.set i X')), (c, .gone)] = bk' ∧ bk' b = .drow true ds e sz (xs.set i X') ∧ bk' c = .gone ∧ ∀ x, x ≠ b → x ≠ c → bk' x = bk x := ⟨_, upF_two .., if_pos rfl, (if_neg (Ne.symm hne)).trans (if_pos rfl), fun x h1 h2 => (if_neg h1).trans (if_neg h2)⟩
  obtain ⟨ω', o2, o3⟩ : ∃ ω' : Nat → Tr, ω' b = (ω b).put (i * sz + j) tc ∧ ∀ x, x ≠ b → ω' x = ω x := ⟨fun x => if x = b then (ω b).put (i * sz + j) tc else ω x, if_pos rfl, fun x h1 => if_neg h1⟩
  have tr := d.tree b hisD
  have sep : ∀ k, OwnD ρ ω bk b k → OwnD ρ ω bk c k → False := fun k h1 h2 => hne (d.sep b c k h1 h2)
  have putE : ∀ x r, ((ω b).put (i * sz + j) tc) (x :: r) = if x = i * sz + j then tc r else ω b (x :: r) := fun _ _ => rfl
  rw [hbk']
  refine ⟨ρ, Zn, hs.gh d ω' (fun x => x = b ∨ x = c) (fun x hx => rfl) (fun x hx => k3 x (fun e => hx (.inl e)) (fun e => hx (.inr e))) (fun x hx => o3 x (fun e => hx (.inl e))) (fun x hx hnf => ?_) (fun x hx m => ?_) (fun x op' ds1 e3 sz1 xs1 hx m hbx => ?_) (fun x hx hdx => ?_) (fun x k hx hk => ?_) (fun x y k hx hy hk hk' => ?_)⟩
  · rcases hx with rfl | rfl
    · rw [k1]; exact ⟨(fun h => by cases h), rfl⟩
    · rw [k2]; exact ⟨(fun h => by cases h), rfl⟩
  · rcases hx with rfl | rfl
    · rw [k1]; trivial
    · rw [k2]; trivial
  · rcases hx with rfl | rfl
    · rw [k1] at hbx
      injection hbx with a1 a2 a3 a4 a5
      subst a1; subst a2; subst a3; subst a4; subst a5
      rw [o2]
      refine RowD.setLeaf h0 ho hl hr m (fun _ => rfl) hx hj hX (fun x hx => put_sub _ hx) (fun u' hu1 hu' => ?_)
      have hu : u' = ρ c := by
        rcases hu' with hv | ⟨c', _, h1, _, h3, _⟩
        · exfalso
          rw [hd] at hv
          cases hv
        · injection h1 with h1; subst h1; exact h3
      subst hu
      rw [put_at, hd]
      exact .inl lvc
    · rw [k2] at hbx; cases hbx
  · rcases hx with rfl | rfl
    · rw [o2]
      refine ⟨fun x p k hk hk' => ?_, fun x p y q k hk hk' => ?_⟩
      · rw [putE] at hk
        split at hk
        · exact sep k ⟨hlive, .inl hk'⟩ (owntc _ k hk)
        · exact tr.1 x p k hk hk'
      · rw [putE] at hk hk'
        split at hk <;> split at hk'
        · rename_i h1 h2
          refine ⟨h1.trans h2.symm, ?_⟩
          cases p with
          | nil => cases q with
            | nil => rfl
            | cons y' q' =>
              exfalso
              rw [tc0] at hk
              rw [tc1] at hk'
              split at hk'
              · rename_i hD; exact (d.tree c hD).1 _ _ k hk' hk
              · cases hk'
          | cons x' p' => cases q with
            | nil =>
              exfalso
              rw [tc0] at hk'
              rw [tc1] at hk
              split at hk
              · rename_i hD; exact (d.tree c hD).1 _ _ k hk hk'
              · cases hk
            | cons y' q' =>
              rw [tc1] at hk hk'
              split at hk
              · rename_i hD
                rw [if_pos hD] at hk'
                obtain ⟨h3, h4⟩ := (d.tree c hD).2 _ _ _ _ k hk hk'
                rw [h3, h4]
              · cases hk
        · exact (sep k ⟨hlive, .inr ⟨hisD, _, _, hk'⟩⟩ (owntc _ k hk)).elim
        · exact (sep k ⟨hlive, .inr ⟨hisD, _, _, hk⟩⟩ (owntc _ k hk')).elim
        · exact tr.2 x p y q k hk hk'
    · rw [k2] at hdx; cases hdx
  · rcases hx with rfl | rfl
    · have h2 := hk.2
      rw [o2] at h2
      rcases h2 with h2 | ⟨_, y, p, h2⟩
      · exact ⟨x, .inl rfl, hlive, .inl h2⟩
      · rw [putE] at h2
        split at h2
        · exact ⟨c, .inr rfl, owntc _ k h2⟩
        · exact ⟨x, .inl rfl, hlive, .inr ⟨hisD, y, p, h2⟩⟩
    · have h1 := hk.1
      rw [k2] at h1; cases h1
  · have dead : ¬ OwnD ρ ω' bk' c k := fun h => by have h1 := h.1; rw [k2] at h1; cases h1
    rcases hx with rfl | rfl <;> rcases hy with rfl | rfl
    · rfl
    · exact absurd hk' dead
    · exact absurd hk dead
    · rfl
end
end Go.Proofs.YtahmbcgolnplgaaDoorA
