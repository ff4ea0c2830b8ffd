/- The abstract machine, twenty-fifth part: deep rows: closing, lifting, leaves of no more use; steps that turn them. No claim lies here. -/
import Derived.Test.YtahmbcgolnplgaaDoorA24
set_option linter.unusedVariables false
set_option linter.unusedSimpArgs false
namespace Go.Proofs.YtahmbcgolnplgaaDoorA
open Go Go.RowKit
section
variable {E : Env} {nt : Nat} {s : S}
theorem gh_eq {b : Nat} {x y : Blk} (hb : gB s.bk b = x) (h : x = y) : Gh E nt s [(b, y)] [b] := by
  subst h
  intro tm bk hag a w hr
  have : upF bk [(b, x)] = bk := by
    rw [upF_one]
    funext i
    by_cases e : i = b
    · subst e; rw [if_pos rfl, hag i List.mem_cons_self, hb]
    · rw [if_neg e]
  rw [this]; exact hr
def tight : AV → Bool
  | .row _ => false
  | _ => true
def clsL (xs : List AV) : Prop := ∀ x ∈ xs, ∀ lv ∈ x.leaves, tight lv = true
/-- One block alone turns, its header stays, what it holds shrinks. -/
theorem gh_one {op op' : Bool} {ds : List Ds} {b e sz : Nat} {xs xs' : List AV} (hb : gB s.bk b = .drow op ds e sz xs) (T : Tr → Tr) (hT : ∀ t i p k, T t (i :: p) = some k → t (i :: p) = some k)
    (h : ∀ (Zn : Nat → Prop) w ρ bk bk' (t : Tr) v, Mv (fz E Zn) (fz E Zn) w w ρ ρ bk bk' → RowD (fz E Zn) w ρ bk op ds t e sz v xs → RowD (fz E Zn) w ρ bk' op' ds (T t) e sz v xs') : Gh E nt s [(b, .drow op' ds e sz xs')] [b] := by
  intro tm bk hag a w ⟨ρ, Zn, hs⟩
  obtain ⟨ω, d⟩ := hs.deep
  have hbk : bk b = .drow op ds e sz xs := (hag b List.mem_cons_self).trans hb
  have hlive : live (bk b) = true := by rw [hbk]; rfl
  have hisD : isD (bk b) = true := by rw [hbk]; rfl
  have hrow := d.row b _ _ _ _ _ hbk
  obtain ⟨bk', hbk', k1, k3⟩ : ∃ bk' : Nat → Blk, upF bk [(b, .drow op' ds e sz xs')] = bk' ∧ bk' b = .drow op' ds e sz xs' ∧ ∀ x, x ≠ b → bk' x = bk x := ⟨_, upF_one .., if_pos rfl, fun x h1 => if_neg h1⟩
  obtain ⟨ω', o2, o3⟩ : ∃ ω' : Nat → Tr, ω' b = T (ω b) ∧ ∀ x, x ≠ b → ω' x = ω x := ⟨fun x => if x = b then T (ω b) else ω x, if_pos rfl, fun x h1 => if_neg h1⟩
  have tr := d.tree b hisD
  rw [hbk']
  refine ⟨ρ, Zn, hs.gh d ω' (fun x => x = b) (fun _ _ => rfl) (fun x hx => k3 x hx) (fun x hx => o3 x hx) (fun x hx hnf => ?_) (fun x hx m => ?_) (fun x op1 ds1 e1 sz1 xs1 hx m hbx => ?_) (fun x hx hdx => ?_) (fun x k hx hk => ?_) (fun x y k hx hy hk hk' => hx.trans hy.symm)⟩
  · subst hx; rw [k1]; exact ⟨(fun h => by cases h), rfl⟩
  · subst hx; rw [k1]; trivial
  · subst hx
    rw [k1] at hbx
    injection hbx with a1 a2 a3 a4 a5
    subst a1; subst a2; subst a3; subst a4; subst a5
    rw [o2]
    exact h Zn w ρ bk bk' _ _ m hrow
  · subst hx
    rw [o2]
    exact ⟨fun i p k hk => tr.1 i p k (hT _ _ _ _ hk), fun i p j q k hk hk' => tr.2 i p j q k (hT _ _ _ _ hk) (hT _ _ _ _ hk')⟩
  · subst hx
    have h2 := hk.2
    rw [o2] at h2
    rcases h2 with h2 | ⟨_, y, p, h2⟩
    · exact ⟨x, rfl, hlive, .inl h2⟩
    · exact ⟨x, rfl, hlive, .inr ⟨hisD, y, p, hT _ _ _ _ h2⟩⟩
/-- All leaves are packed: closed. -/
theorem gh_close {op : Bool} {ds : List Ds} {b e sz : Nat} {xs : List AV} (hb : gB s.bk b = .drow op ds e sz xs) (h : clsL xs) : Gh E nt s [(b, .drow false ds e sz xs)] [b] :=
  gh_one hb id (fun _ _ _ _ h => h) fun Zn w ρ bk bk' t v m hr => by
    obtain ⟨h0, inner, ho, hl, hr⟩ := hr
    refine ⟨h0, inner, ho, hl, fun j x i lv hj hi => ?_⟩
    obtain ⟨u, hu, hv⟩ := hr j x i lv hj hi
    refine ⟨u, hu, ?_⟩
    have ht := h x (List.mem_of_getElem? hj) lv (List.mem_of_getElem? hi)
    rcases hv with hv | ⟨c, _, h1, _⟩
    · exact .inl hv
    · rw [h1] at ht; cases ht
theorem gh_open {op : Bool} {ds : List Ds} {b e sz : Nat} {xs : List AV} (hb : gB s.bk b = .drow op ds e sz xs) : Gh E nt s [(b, .drow true ds e sz xs)] [b] :=
  gh_one hb id (fun _ _ _ _ h => h) fun Zn w ρ bk bk' t v m hr => by
    obtain ⟨h0, inner, ho, hl, hr⟩ := hr
    refine ⟨h0, inner, ho, hl, fun j x i lv hj hi => ?_⟩
    obtain ⟨u, hu, hv⟩ := hr j x i lv hj hi
    exact ⟨u, hu, hv.mv m fun _ => rfl⟩
/-- An element that is of no more use. -/
def jk (sz : Nat) : AV := .agg (List.replicate sz .junk)
/-- An empty row may be a deep one. -/
theorem gh_lift (ds : List Ds) {b e sz : Nat} (hb : gB s.bk b = .row e sz []) : Gh E nt s [(b, .drow false ds e sz [])] [b] := by
  intro tm bk hag a w ⟨ρ, Zn, hs⟩
  obtain ⟨ω, d⟩ := hs.deep
  have hbk : bk b = .row e sz [] := (hag b List.mem_cons_self).trans hb
  have hlive : live (bk b) = true := by rw [hbk]; rfl
  have hrow := hs.blk b
  rw [hbk] at hrow
  obtain ⟨bk', hbk', k1, k3⟩ : ∃ bk' : Nat → Blk, upF bk [(b, .drow false ds e sz [])] = bk' ∧ bk' b = .drow false ds e sz [] ∧ ∀ x, x ≠ b → bk' x = bk x := ⟨_, upF_one .., if_pos rfl, fun x h1 => if_neg h1⟩
  obtain ⟨ω', o2, o3⟩ : ∃ ω' : Nat → Tr, ω' b = (fun _ => none) ∧ ∀ x, x ≠ b → ω' x = ω x := ⟨fun x => if x = b then (fun _ => none) else ω x, if_pos rfl, fun x h1 => if_neg h1⟩
  rw [hbk']
  refine ⟨ρ, Zn, hs.gh d ω' (fun x => x = b) (fun _ _ => rfl) (fun x hx => k3 x hx) (fun x hx => o3 x hx) (fun x hx hnf => ?_) (fun x hx m => ?_) (fun x op1 ds1 e1 sz1 xs1 hx m hbx => ?_) (fun x hx hdx => ?_) (fun x k hx hk => ?_) (fun x y k hx hy hk hk' => hx.trans hy.symm)⟩
  · subst hx; rw [k1]; exact ⟨(fun h => by cases h), rfl⟩
  · subst hx; rw [k1]; trivial
  · subst hx
    rw [k1] at hbx
    injection hbx with a1 a2 a3 a4 a5
    subst a1; subst a2; subst a3; subst a4; subst a5
    rw [o2]
    obtain ⟨h0, inner, ho, hl, _⟩ := hrow
    exact ⟨h0, inner, ho, hl, fun j x i lv hj => by simp at hj⟩
  · subst hx
    rw [o2]
    exact ⟨(fun i p k hk => by cases hk), (fun i p j q k hk => by cases hk)⟩
  · subst hx
    have h2 := hk.2
    rw [o2] at h2
    rcases h2 with h2 | ⟨_, y, p, h2⟩
    · exact ⟨x, rfl, hlive, .inl h2⟩
    · cases h2
end
/-! What runs on cells of a row. -/
section
variable {P : Program} {w : World}
theorem own_form {e sz n : Nat} {v : Value} {inner : List Value} (h : ownsR w 0 e sz v n inner) : ∃ A c, v = .slice A n c ∧ n ≤ c ∧ (0 < n → ∃ g, A = some ⟨g, 0, none⟩) := by
  rcases h.2 with ⟨rfl, hn⟩ | ⟨g, cap, cur, rfl, _, _, hnc, _⟩
  · exact ⟨none, 0, by rw [hn], by omega, fun h => by omega⟩
  · exact ⟨_, cap, rfl, hnc, fun _ => ⟨g, rfl⟩⟩
theorem own_store {o : Oper} {T m g base e sz n n' c : Nat} {p x : Operand} {ev : Operand → Value} {v : Value} {inner : List Value} (hop : o.op = .store T p x) (hp : ev p = .pointer (some ⟨g, base, none⟩)) (hT : sizeIs P T m = true) (hlen : (ev x).cells.toList.length = m) (hone : ∀ v ∈ (ev x).cells.toList, v.oneCell' = true) (hown : ownsR w 0 e sz v n inner) (hv : v = .slice (some ⟨g, 0, none⟩) n' c) (hb : base + m ≤ n * sz) :
    ∃ w', (execOp ev o).run P w = .ok .skip w' ∧ w.grownBy w' v.ownBlock ∧ ownsR w' 0 e sz v n (inner.take base ++ (ev x).cells.toList ++ inner.drop (base + m)) := by
  rcases hown.2 with ⟨e1, e2⟩ | ⟨g', cap, cur, e1, _, hh, hnc, hcm, hcs, htk⟩
  · rw [hv] at e1; cases e1
  · rw [hv] at e1
    injection e1 with e1 e6 e7
    injection e1 with e1; injection e1 with e1
    subst e1; subst e6; subst e7
    have hcapb : n' * sz ≤ c * sz := Nat.mul_le_mul_right _ hnc
    have hst := store_R P (ev x).cells.toList 0 hh (o := base) (by omega) hone
    simp only [Nat.add_zero] at hst
    rw [hlen] at hst
    have hob : v.ownBlock = some g := by rw [hv]; rfl
    have hin : inner.length = n' * sz := hown.1
    have hcl : cur.toList.length = c * sz := by simpa using hcs
    refine ⟨w.setRow g (cur.toList.take base ++ (ev x).cells.toList ++ cur.toList.drop (base + m)).toArray, ?_, ⟨rfl, rfl, rfl, by simp [World.setRow], fun k hk hne => setRow_other w g k _ (fun e => hne (by rw [hob, e]))⟩, ?_, .inr ⟨g, c, _, hv, Nat.zero_le _, setRow_R hh hlen (by rw [hcs]; omega), hnc, hcm, ?_, ?_⟩⟩
    · unfold execOp
      simp only [hop]
      have hvs : (ev x).cells.size = m := by simpa using hlen
      simp [Instr.storeAt, Instr.sureAddr, hp, storeVar, size_run hT, hvs, hst]
    · simp only [List.length_append, List.length_take, List.length_drop]
      omega
    · simp only [List.size_toArray, List.length_append, List.length_take, List.length_drop]
      omega
    · show ((cur.toList.take base ++ (ev x).cells.toList ++ cur.toList.drop (base + m))).take (n' * sz) = _
      apply List.ext_getElem?
      intro q
      rw [List.getElem?_take]
      have hin' : ∀ q, q < n' * sz → inner[q]? = cur.toList[q]? := fun q hq => by rw [← htk, List.getElem?_take, if_pos hq]
      by_cases hq : q < n' * sz
      · rw [if_pos hq, midget (by omega) hlen, midget (by omega) hlen, hin' q hq]
      · rw [if_neg hq, List.getElem?_eq_none]
        simp only [List.length_append, List.length_take, List.length_drop]
        omega
/-- append's run, on cells. -/
theorem append_runV {T ty e sz bytes n m : Nat} {zs : List Value} {v u : Value} {inner news : List Value} (hT : sliceT P T e sz = true) (hz : zeroOf P e = some zs) (hzl : Nat.beq zs.length sz = true) (hby : bytesIs P e bytes = true) (hb0 : Nat.blt 0 bytes = true) (h0 : 0 < sz) (hown : ownsR w 0 e sz v n inner) (hown2 : ownsR w 0 e sz u m news) (hone : ∀ x ∈ news, x.oneCell' = true)
    (hlen : (n + m) * bytes ≤ 140737488355328) : ∃ v' w', (Builtin.append_ #[T, T] ty #[v, u]).run P w = .ok v' w' ∧ w.grownBy w' v.ownBlock ∧ (∀ k, v'.ownBlock = some k → w.heap.size ≤ k ∨ v.ownBlock = some k) ∧ ownsR w' 0 e sz v' (n + m) (inner ++ news) := by
  obtain ⟨hu', hsi⟩ := sliceT_of hT
  have hzl := beq_t hzl
  unfold zeroOf at hz
  unfold bytesIs at hby
  unfold sizeIs at hsi
  cases hi : P.info? e with
  | none => rw [hi] at hz; cases hz
  | some i =>
    rw [hi] at hz hby hsi
    simp only at hz
    cases hzz : i.zero with
    | none => rw [hzz] at hz; cases hz
    | some z =>
      rw [hzz] at hz
      injection hz with hz
      have hb0' : 0 < bytes := Nat.blt_eq ▸ hb0
      have hmax : n + m ≤ maxLen := by
        have : n + m ≤ (n + m) * bytes := Nat.le_mul_of_pos_right _ hb0'
        simp only [maxLen]; omega
      rcases hown2.2 with ⟨rfl, hm⟩ | ⟨g, cap, cur, rfl, _, hh, hnc, _⟩
      · subst hm
        have : news = [] := List.eq_nil_of_length_eq_zero (by rw [hown2.1]; simp)
        subst this
        exact ⟨v, w, run_append_nil0 hu' hi hown 0, ⟨rfl, rfl, rfl, Nat.le_refl _, fun _ _ _ => rfl⟩, fun k hk => .inr hk, by rw [List.append_nil]; exact hown⟩
      · obtain ⟨v', w', r1, r2, r3, r5⟩ := append_R (P := P) (ty := ty) (c := cap) hu' hi hzz (beq_t hsi) (beq_t hby) (by rw [← hzl, ← hz]; simp) h0 hown hown2.1 (fun j u hj => hown2.cells (g := g) rfl j u hj) hone hmax hlen
        refine ⟨v', w', r1, r3, fun k hk => ?_, r2⟩
        rcases r5 with r5 | r5
        · exact .inr (r5 ▸ hk)
        · rw [r5] at hk; injection hk with hk; exact .inl (by omega)
end
end Go.Proofs.YtahmbcgolnplgaaDoorA
