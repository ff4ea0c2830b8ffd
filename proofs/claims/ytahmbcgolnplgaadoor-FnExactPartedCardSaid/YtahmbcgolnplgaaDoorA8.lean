/- The abstract machine, eighth part: a call's step. No claim lies here. -/
import Derived.Test.YtahmbcgolnplgaaDoorA7
set_option linter.unusedVariables false
set_option linter.unusedSimpArgs false
namespace Go.Proofs.YtahmbcgolnplgaaDoorA
open Go

def ixN : Nat → List Nat → Nat → Option Nat
  | _, [], _ => none
  | i, x :: r, c => match Nat.beq c x with
    | true => some i
    | false => ixN (i + 1) r c
theorem ixN_some : ∀ {l : List Nat} {i c k : Nat}, ixN i l c = some k → i ≤ k ∧ l[k - i]? = some c
  | [], i, c, k, h => by cases h
  | x :: r, i, c, k, h => by
    have h' : (match Nat.beq c x with | true => some i | false => ixN (i + 1) r c) = some k := h
    cases hb : Nat.beq c x with
    | true =>
      rw [hb] at h'
      injection h' with h'
      subst h'
      rw [Nat.sub_self, beq_t hb]
      exact ⟨Nat.le_refl _, rfl⟩
    | false =>
      rw [hb] at h'
      obtain ⟨h1, h2⟩ := ixN_some h'
      refine ⟨by omega, ?_⟩
      rw [show k - i = (k - (i + 1)) + 1 by omega, List.getElem?_cons_succ]
      exact h2
theorem ixN_none : ∀ {l : List Nat} {i c : Nat}, ixN i l c = none → c ∉ l
  | [], i, c, _ => by simp
  | x :: r, i, c, h => by
    have h' : (match Nat.beq c x with | true => some i | false => ixN (i + 1) r c) = none := h
    cases hb : Nat.beq c x with
    | true => rw [hb] at h'; cases h'
    | false =>
      rw [hb] at h'
      have := ixN_none h'
      simp only [List.mem_cons, not_or]
      exact ⟨beq_f hb, this⟩
theorem nodupN_get : ∀ {l : List Nat}, nodupN l = true → ∀ {i j c : Nat}, l[i]? = some c → l[j]? = some c → i = j
  | [], _, i, j, c, h, _ => by simp at h
  | x :: r, hn, i, j, c, h1, h2 => by
    have h' : (r.all (fun y => !(Nat.beq x y)) && nodupN r) = true := hn
    rw [Bool.and_eq_true] at h'
    have nk : x ∉ r := fun hb => by
      have := List.all_eq_true.1 h'.1 x hb
      simp at this
    cases i with
    | zero =>
      cases j with
      | zero => rfl
      | succ j =>
        simp only [List.getElem?_cons_zero, Option.some.injEq] at h1
        rw [List.getElem?_cons_succ] at h2
        subst h1
        exact absurd (List.mem_of_getElem? h2) nk
    | succ i =>
      cases j with
      | zero =>
        simp only [List.getElem?_cons_zero, Option.some.injEq] at h2
        rw [List.getElem?_cons_succ] at h1
        subst h2
        exact absurd (List.mem_of_getElem? h1) nk
      | succ j =>
        rw [List.getElem?_cons_succ] at h1 h2
        rw [nodupN_get h'.2 h1 h2]
theorem ixN_of {l : List Nat} (hn : nodupN l = true) {j c : Nat} (h : l[j]? = some c) : ixN 0 l c = some j := by
  cases hx : ixN 0 l c with
  | none => exact absurd (List.mem_of_getElem? h) (ixN_none hx)
  | some k =>
    obtain ⟨_, h1⟩ := ixN_some hx
    rw [Nat.sub_zero] at h1
    rw [nodupN_get hn h1 h]
/-- Keys 0, 1, 2, .. -/
def keys : Nat → List (Nat × Blk) → Bool
  | _, [] => true
  | i, (j, _) :: r => Nat.beq j i && keys (i + 1) r
theorem keys_get : ∀ {l : List (Nat × Blk)} {i : Nat}, keys i l = true → ∀ j, gBo l j = if i ≤ j then (l[j - i]?).map (·.2) else none
  | [], i, _, j => by simp [gBo]
  | (k, x) :: r, i, h, j => by
    have h' : (Nat.beq k i && keys (i + 1) r) = true := h
    rw [Bool.and_eq_true] at h'
    have hk := beq_t h'.1
    subst hk
    show (match Nat.beq j k with | true => some x | false => gBo r j) = _
    cases hb : Nat.beq j k with
    | true => have := beq_t hb; subst this; simp
    | false =>
      have hne := beq_f hb
      show gBo r j = _
      rw [keys_get h'.2 j]
      by_cases hle : k ≤ j
      · rw [if_pos (by omega), if_pos hle, show j - k = (j - (k + 1)) + 1 by omega, List.getElem?_cons_succ]
      · rw [if_neg (by omega), if_neg hle]
def PreOk (s : S) (I : List Nat) (up : Fl) (m : Nat → Nat) : List (Nat × Blk) → Prop
  | [] => True
  | (j, x) :: r => vwB s I up x (gB s.bk (m j)) = renB m x ∧ PreOk s I up m r
theorem preOk_get {s : S} {I : List Nat} {up : Fl} {m : Nat → Nat} : ∀ {l : List (Nat × Blk)}, PreOk s I up m l → ∀ {j x}, (j, x) ∈ l → vwB s I up x (gB s.bk (m j)) = renB m x
  | [], _, j, x, h => by cases h
  | (i, y) :: r, h, j, x, hm => by
    rcases List.mem_cons.1 hm with hm | hm
    · injection hm with h1 h2; subst h1; subst h2; exact h.1
    · exact preOk_get h.2 hm
def allFresh (s : S) : List Nat → Prop
  | [] => True
  | b :: r => gB s.bk b = .fresh ∧ allFresh s r
theorem allFresh_get {s : S} : ∀ {l : List Nat}, allFresh s l → ∀ b ∈ l, gB s.bk b = .fresh
  | [], _, b, h => by cases h
  | x :: r, h, b, hb => by
    rcases List.mem_cons.1 hb with hb | hb
    · rw [hb]; exact h.1
    · exact allFresh_get h.2 b hb
def notTup : AV → Bool
  | .tup _ => false
  | _ => true
def mN (ids : List Nat) (far : Nat) (j : Nat) : Nat := ids.getD j far

section
variable {P : Program} {Q : Exit → Act → World → Prop} {E : Env} {nt : Nat} {s : S}
theorem run_call {fn : Func} {f : FuncId} {as : Array Operand} {ts : Array TypeId} {cf : Operand} {o : Oper} {ρ : Operand → Value} {cs : Array Value} (hop : o.op = .call { callee := .value cf, args := as, argTypes := ts }) (hf : P.funcs[f]? = some fn) (hname : (fn.name == "runtime.NumGoroutine") = false) (hbody : fn.body.isSome = true) (hcf : ρ cf = .func (.func f) #[] cs) (w : World) :
    (execOp ρ o).run P w = .ok (.enter f (as.map ρ ++ cs)) w := by
  have hb : ¬ fn.body = none := by cases h : fn.body <;> simp_all
  have hn : ¬ fn.name = "runtime.NumGoroutine" := by simpa using hname
  unfold execOp
  simp [hop, hcf, resolve, Deferred.ofValue, invoke, callFunc, hf, hn, hb]
theorem owp_call {o : Oper} {fn : Func} {f : FuncId} {pre post : List (Nat × Blk)} {args : List AV} {res : AV} {as : Array Operand} {ts : Array TypeId} {cf : Operand} {caps : List AV} {d : Option Nat} (ids : List Nat) (far : Nat) (up : Fl)
    (hc : ACalls P f pre args post res) (hop : o.op = .call { callee := .value cf, args := as, argTypes := ts }) (hcf : opd s cf = .fn f caps) (hf : P.funcs[f]? = some fn) (hname : (fn.name == "runtime.NumGoroutine") = false) (hbody : fn.body.isSome = true) (hd : o.dst = d) (hlt : ∀ e, d = some e → Nat.blt e nt = true)
    (hargs : zipL (vw3 s (ids.take pre.length) up) args (as.toList.map (opd s) ++ caps) = args.map (ren3 (mN ids far))) (hnt : (as.toList.map (opd s) ++ caps).all notTup = true) (hna : args.all notTup = true) (hpre : PreOk s (ids.take pre.length) up (mN ids far) pre)
    (hfar : gB s.bk far = .fresh) (hfar2 : ids.contains far = false) (hkp : keys 0 pre = true) (hkq : keys 0 post = true) (hlen : Nat.beq ids.length post.length = true) (hle : Nat.ble pre.length post.length = true) (hnd : nodupN ids = true) (hnew : allFresh s (ids.drop pre.length)) (hnp : nofresh pre = true) (hnq : nofresh post = true) :
    Owp P Q E nt o s ⟨d, mp4 (outl up (mN ids far)) res, post.map (fun p => (mN ids far p.1, mpB (outl up (mN ids far)) p.2))⟩ (lkO cf ++ as.toList.flatMap lkO) (far :: ids ++ ((as.toList.map (opd s) ++ caps).flatMap rows3 ++ (ids.take pre.length).flatMap (fun b => rowsB (gB s.bk b)))) := by
  intro tm bk hag K a w ⟨ρ, Zn, hs⟩ hK
  have hlen := beq_t hlen
  have hle := Nat.le_of_ble_eq_true hle
  -- the numbers
  have getM : ∀ {j : Nat}, j < ids.length → ids[j]? = some (mN ids far j) := fun {j} hj => by
    unfold mN; rw [List.getD_eq_getElem?_getD, List.getElem?_eq_getElem hj]; rfl
  have memM : ∀ {j : Nat}, j < ids.length → mN ids far j ∈ ids := fun hj => List.mem_of_getElem? (getM hj)
  have farM : ∀ {j : Nat}, ¬ j < ids.length → mN ids far j = far := fun {j} hj => by
    unfold mN; rw [List.getD_eq_getElem?_getD, List.getElem?_eq_none (by omega)]; rfl
  have injM : ∀ {i j : Nat}, i < ids.length → j < ids.length → mN ids far i = mN ids far j → i = j := fun {i j} hi hj e => nodupN_get hnd (getM hi) (e ▸ getM hj)
  have bkI : ∀ {b : Nat}, b ∈ ids → bk b = gB s.bk b := fun hb => hag.2 _ (List.mem_append_left _ (List.mem_cons_of_mem _ hb))
  have bkFar : bk far = .fresh := (hag.2 _ (List.mem_append_left _ List.mem_cons_self)).trans hfar
  have gpre : ∀ j, gB pre j = match (pre[j]?).map (·.2) with | some b => b | none => .fresh := fun j => by unfold gB; rw [keys_get hkp j, if_pos (Nat.zero_le _), Nat.sub_zero] <;> rfl
  have gpost : ∀ j, gB post j = match (post[j]?).map (·.2) with | some b => b | none => .fresh := fun j => by unfold gB; rw [keys_get hkq j, if_pos (Nat.zero_le _), Nat.sub_zero] <;> rfl
  have preN : ∀ {j : Nat}, j < pre.length → gB pre j ≠ .fresh := fun {j} hj => by
    refine nofresh_get hnp j ?_
    cases hx : gBo pre j with
    | none => rw [keys_get hkp j, if_pos (Nat.zero_le _), Nat.sub_zero, List.getElem?_eq_getElem hj] at hx; cases hx
    | some b =>
      by_cases hm : j ∈ pre.map (·.1)
      · exact hm
      · rw [gBo_none hm] at hx; cases hx
  have postN : ∀ {j : Nat}, j < post.length → gB post j ≠ .fresh := fun {j} hj => by
    refine nofresh_get hnq j ?_
    cases hx : gBo post j with
    | none => rw [keys_get hkq j, if_pos (Nat.zero_le _), Nat.sub_zero, List.getElem?_eq_getElem hj] at hx; cases hx
    | some b =>
      by_cases hm : j ∈ post.map (·.1)
      · exact hm
      · rw [gBo_none hm] at hx; cases hx
  have preF : ∀ {j : Nat}, gB pre j ≠ .fresh → j < pre.length := fun {j} h => by
    rcases Nat.lt_or_ge j pre.length with hj | hj
    · exact hj
    · rw [gpre, List.getElem?_eq_none hj] at h; exact absurd rfl h
  have postF : ∀ {j : Nat}, gB post j ≠ .fresh → j < post.length := fun {j} h => by
    rcases Nat.lt_or_ge j post.length with hj | hj
    · exact hj
    · rw [gpost, List.getElem?_eq_none hj] at h; exact absurd rfl h
  have newM : ∀ {j : Nat}, ¬ j < pre.length → j < ids.length → bk (mN ids far j) = .fresh := fun {j} h1 h2 => by
    rw [bkI (memM h2)]
    refine allFresh_get hnew _ ?_
    refine List.mem_of_getElem? (i := j - pre.length) ?_
    rw [List.getElem?_drop, show pre.length + (j - pre.length) = j by omega]
    exact getM h2
  have memI : ∀ {b : Nat}, b ∈ ids.take pre.length ↔ ∃ j, j < pre.length ∧ mN ids far j = b := fun {b} => by
    constructor
    · intro h
      obtain ⟨j, hj, hb⟩ := List.getElem_of_mem h
      have hj1 : j < pre.length := by simp at hj; omega
      refine ⟨j, hj1, ?_⟩
      have := getM (j := j) (by omega)
      rw [List.getElem_take] at hb
      rw [List.getElem?_eq_getElem (by omega)] at this
      injection this with this
      rw [← this, hb]
    · rintro ⟨j, hj, rfl⟩
      refine List.mem_of_getElem? (i := j) ?_
      rw [List.getElem?_take, if_pos hj]
      exact getM (by omega)
  -- what the callee begins with
  obtain ⟨ω, dd⟩ := hs.deep
  let E' : Env := { W0 := w, Z0 := fun k => k < w.heap.size ∧ ∀ j, j < pre.length → ¬ OwnD ρ ω bk (mN ids far j) k, Zi := Zn, Zy := fz E Zn up, ρ0 := fun j => if j < pre.length then some (ρ (mN ids far j)) else none, gl := ⟨⟨Nat.lt_of_lt_of_le (hs.z0 0 E.gl.1) hs.size, fun j _ ho => (dd.out _ 0 ho).1 E.gl.1⟩, fun i x hx => (cell_block (a := ⟨0, i, none⟩) (hs.keep 0 E.gl.1)).trans (E.gl.2 i x hx)⟩ }
  have z0' : ∀ k, E.Z0 k → E'.Z0 k := fun k hk => ⟨Nat.lt_of_lt_of_le (hs.z0 k hk) hs.size, fun j _ ho => (dd.out _ k ho).1 hk⟩
  have zn' : ∀ k, Zn k → E'.Z0 k := fun k hk => ⟨(hs.zn k hk).1, fun j _ ho => (dd.out _ k ho).2 hk⟩
  have zo' : ∀ z k, fz E Zn z k → E'.Z0 k := fun z k hk => by
    cases z with
    | o => rcases hk with hk | hk
           · exact z0' k hk
           · exact zn' k hk
    | n => exact zn' k hk
    | u => exact z0' k (hs.zy k hk)
  have HV : Vw (fz E Zn) (fz E' Zn) w ρ bk (ids.take pre.length) up := by
    have ownZD : ∀ b k, b ∉ ids.take pre.length → OwnD ρ ω bk b k → E'.Z0 k := fun b k hb ho => ⟨dd.lt b k ho, fun j hj ho' => hb (memI.2 ⟨j, hj, (dd.sep _ _ k ho ho').symm⟩)⟩
    have ownZ : ∀ b k, b ∉ ids.take pre.length → Own ρ bk b k → E'.Z0 k := fun b k hb ho => ownZD b k hb ho.deep
    refine ⟨fun b e sz xs hb hbk => ?_, fun b ds e sz xs hb hbk => ?_, fun b e sz xs lo n A N c hb hbk hr hle => ?_, fun z k hf hk => ?_, fun z k hk => .inl (zo' z k hk)⟩
    · have hblk := hs.blk b
      rw [hbk] at hblk
      exact row_sl hblk (fun k hk => .inr hk) (fun k hk => .inl (ownZ b k hb ⟨by rw [hbk]; rfl, hk⟩))
    · have hlive : live (bk b) = true := by rw [hbk]; rfl
      exact rowD_sl (dd.row b _ _ _ _ _ hbk) (fun k hk => .inr hk) (fun k hk => .inl (ownZD b k hb ⟨hlive, .inl hk⟩)) (fun i p k ht => .inl (ownZD b k hb ⟨hlive, .inr ⟨by rw [hbk]; rfl, i, p, ht⟩⟩))
    · have hblk := hs.blk b
      rw [hbk, hr] at hblk
      exact sub_sl hblk hle (fun k hk => .inr hk) (fun k hk => .inl (ownZ b k hb ⟨by rw [hbk]; rfl, by rw [hr]; exact hk⟩))
    · show fz E Zn up k
      cases up <;> cases z <;> first | (cases hf; done) | exact hk | exact .inr hk | exact .inl (hs.zy k hk)
  have hren : ∀ b, bk (mN ids far b) ≠ .fresh → gB pre b ≠ .fresh := fun b hb => by
    by_cases h1 : b < pre.length
    · exact preN h1
    · by_cases h2 : b < ids.length
      · exact absurd (newM h1 h2) hb
      · rw [farM h2] at hb; exact absurd bkFar hb
  have bkP : ∀ {j : Nat}, j < pre.length → ∃ x, pre[j]? = some (j, x) ∧ gB pre j = x := fun {j} hj => by
    have hx : pre[j]? = some pre[j] := List.getElem?_eq_getElem hj
    have hk : (pre[j]).1 = j := by
      have key : ∀ {l : List (Nat × Blk)} {i j : Nat} {p : Nat × Blk}, keys i l = true → l[j]? = some p → p.1 = i + j := by
        intro l
        induction l with
        | nil => intro i j p _ h; simp at h
        | cons q r ih =>
          intro i j p h hp
          obtain ⟨k, x⟩ := q
          have h' : (Nat.beq k i && keys (i + 1) r) = true := h
          rw [Bool.and_eq_true] at h'
          cases j with
          | zero => simp only [List.getElem?_cons_zero, Option.some.injEq] at hp; subst hp; exact beq_t h'.1
          | succ j => have := ih h'.2 (by simpa using hp); omega
      have := key hkp hx
      omega
    refine ⟨(pre[j]).2, ?_, ?_⟩
    · rw [hx]; congr 1; exact Prod.ext hk rfl
    · rw [gpre, hx]; rfl
  have bkQ : ∀ {j : Nat}, j < post.length → ∃ x, post[j]? = some (j, x) ∧ gB post j = x := fun {j} hj => by
    have hx : post[j]? = some post[j] := List.getElem?_eq_getElem hj
    have hk : (post[j]).1 = j := by
      have key : ∀ {l : List (Nat × Blk)} {i j : Nat} {p : Nat × Blk}, keys i l = true → l[j]? = some p → p.1 = i + j := by
        intro l
        induction l with
        | nil => intro i j p _ h; simp at h
        | cons q r ih =>
          intro i j p h hp
          obtain ⟨k, x⟩ := q
          have h' : (Nat.beq k i && keys (i + 1) r) = true := h
          rw [Bool.and_eq_true] at h'
          cases j with
          | zero => simp only [List.getElem?_cons_zero, Option.some.injEq] at hp; subst hp; exact beq_t h'.1
          | succ j => have := ih h'.2 (by simpa using hp); omega
      have := key hkq hx
      omega
    refine ⟨(post[j]).2, ?_, ?_⟩
    · rw [hx]; congr 1; exact Prod.ext hk rfl
    · rw [gpost, hx]; rfl
  have vwBk : ∀ {j : Nat}, j < pre.length → BlkOk (fz E' Zn) w (fun b => ρ (mN ids far b)) (gB pre) (ρ (mN ids far j)) (gB pre j) := fun {j} hj => by
    obtain ⟨x, hx, hg⟩ := bkP hj
    have hv := preOk_get hpre (List.mem_of_getElem? hx)
    have hI : mN ids far j ∈ ids.take pre.length := memI.2 ⟨j, hj, rfl⟩
    have h1 := hs.blk (mN ids far j)
    rw [bkI (memM (by omega))] at h1
    have h2 := vwB_ok (s := s) (y := x) HV (fun k hk => hk) (fun b hb => hag.2 b (List.mem_append_right _ (List.mem_append_right _ (List.mem_flatMap.2 ⟨_, hI, hb⟩)))) h1
    rw [hv] at h2
    rw [hg]
    exact BlkOk.ren hren h2
  have hp : Hp E' (fun b => ρ (mN ids far b)) E'.Zi (gB pre) E'.W0 := by
    have getB : ∀ b, live (gB pre b) = true → b < pre.length ∧ vwB s (ids.take pre.length) up ((pre[b]?.map (·.2)).getD .fresh) (bk (mN ids far b)) = renB (mN ids far) (gB pre b) := fun b hl => by
      have hb : b < pre.length := preF (fun e => by rw [e] at hl; cases hl)
      obtain ⟨x, hx, hg⟩ := bkP hb
      have hv := preOk_get hpre (List.mem_of_getElem? hx)
      refine ⟨hb, ?_⟩
      rw [hx, hg, bkI (memM (by omega))]
      exact hv
    have get : ∀ b k, OwnD (fun b => ρ (mN ids far b)) (fun b => ω (mN ids far b)) (gB pre) b k → b < pre.length ∧ OwnD ρ ω bk (mN ids far b) k := by
      intro b k ho
      obtain ⟨hb, hv⟩ := getB b ho.1
      refine ⟨hb, vwB_live (by rw [hv, live_ren]; exact ho.1), ?_⟩
      rcases ho.2 with h | ⟨h, h'⟩
      · exact .inl h
      · exact .inr ⟨vwB_isD (by rw [hv, isD_ren]; exact h), h'⟩
    refine ⟨rfl, rfl, rfl, Nat.le_refl _, fun k hk => hk.1, fun k hk => rfl, fun k hk => hk, fun k hk => ?_, fun k hk => ⟨(hs.zn k hk).1, .inl hk⟩, fun b v hv => ?_, fun b => ?_, ⟨fun b => ω (mN ids far b), fun b op ds e sz xs hbk => ?_, fun b hbk => ?_, fun b k ho => ?_, fun b k ho => ?_, fun b b' k ho ho' => ?_⟩, rfl, rfl, fun i => .inl rfl⟩
    · exact zo' up k hk
    · by_cases hb : b < pre.length
      · have hv' : (if b < pre.length then some (ρ (mN ids far b)) else none) = some v := hv
        rw [if_pos hb] at hv'
        injection hv' with hv'
        exact ⟨preN hb, hv'⟩
      · have hv' : (if b < pre.length then some (ρ (mN ids far b)) else none) = some v := hv
        rw [if_neg hb] at hv'; cases hv'
    · by_cases hb : b < pre.length
      · exact vwBk hb
      · have : gB pre b = .fresh := by rw [gpre, List.getElem?_eq_none (by omega)]; rfl
        rw [this]; trivial
    · obtain ⟨hb, hv⟩ := getB b (by rw [hbk]; rfl)
      obtain ⟨ys, hy, hy2⟩ := renB_drow (m := mN ids far) hbk
      obtain ⟨h1, h2⟩ := vwB_drow (hv.trans hy)
      subst h1
      rw [hy2 rfl] at h2
      exact (dd.row _ _ _ _ _ _ h2).closed (fun k hk => hk)
    · obtain ⟨hb, hv⟩ := getB b (by revert hbk; cases gB pre b <;> first | exact fun _ => rfl | (intro h; cases h))
      exact dd.tree _ (vwB_isD (by rw [hv, isD_ren]; exact hbk))
    · exact dd.lt _ k (get b k ho).2
    · obtain ⟨hb, ho'⟩ := get b k ho
      exact ⟨fun hz => hz.2 b hb ho', (dd.out _ k ho').2⟩
    · have h1 := get b k ho
      have h2 := get b' k ho'
      exact injM (by omega) (by omega) (dd.sep _ _ k h1.2 h2.2)
  have hcf' := St.opd (s := s) hs cf (fun t ht => hag.1 t (List.mem_append_left _ ht))
  rw [hcf] at hcf'
  obtain ⟨cs, hcv, hcaps⟩ := rep_fn hcf'
  have hvals : Fa (RepT (fz E Zn) w ρ bk) (as.toList.map (opd s) ++ caps) (as.toList.map a.eval ++ cs) := by
    refine Fa.append ⟨by simp, fun i x v hx hv => ?_⟩ (hcaps.imp fun _ _ h => ?_)
    · rw [List.getElem?_map] at hx hv
      obtain ⟨q, hq, rfl⟩ := Option.map_eq_some_iff.1 hx
      rw [hq] at hv
      injection hv with hv
      subst hv
      exact St.opd hs q (fun t ht => hag.1 t (List.mem_append_right _ (List.mem_flatMap.2 ⟨q, List.mem_of_getElem? hq, ht⟩)))
    · rcases h with h | ⟨l, cs, h1, h2, h3⟩
      · exact rep_of_C (.inl h)
      · exact .inr (.inr (.inl (.inr ⟨l, cs, h1, h2, h3.imp fun _ _ h => .inl h⟩)))
  have hargs' : Fa (RepT (fz E' Zn) w (fun b => ρ (mN ids far b)) (gB pre)) args (as.toList.map a.eval ++ cs) := by
    have h1 : Fa (RepT (fz E' Zn) w ρ bk) (zipL (vw3 s (ids.take pre.length) up) args (as.toList.map (opd s) ++ caps)) (as.toList.map a.eval ++ cs) := by
      refine zip_fa hvals (fun x hx y v hv => vw3_okT HV (fun b hb => hag.2 b (List.mem_append_right _ (List.mem_append_left _ (List.mem_flatMap.2 ⟨x, hx, hb⟩)))) hv (fun l e => ?_))
      have := List.all_eq_true.1 hnt x hx
      rw [e] at this; cases this
    rw [hargs] at h1
    have h2 := Fa.map_left.1 h1
    refine ⟨h2.1, fun i x v hxi hvi => ?_⟩
    have h : RepT (fz E' Zn) w ρ bk (ren3 (mN ids far) x) v := h2.2 i x v hxi hvi
    have e : ren4 (mN ids far) x = ren3 (mN ids far) x := by
      have := List.all_eq_true.1 hna x (List.mem_of_getElem? hxi)
      cases x <;> first | rfl | cases this
    rw [← e] at h
    exact RepT.ren hren h
  have hcall := hc E' (fun b => ρ (mN ids far b)) (as.toList.map a.eval ++ cs) hp (fun b v hv => by
    have hv' : (if b < pre.length then some (ρ (mN ids far b)) else none) = some v := hv
    by_cases hb : b < pre.length
    · exact hb
    · rw [if_neg hb] at hv'; cases hv') hargs'
  unfold Oper.wp
  rw [run_call (P := P) (cs := cs.toArray) hop hf hname hbody hcv w, Oper.upon_enter]
  have eargs : (as.toList.map a.eval ++ cs).toArray = as.map a.eval ++ cs.toArray := by
    apply Array.ext'
    simp
  rw [eargs] at hcall
  refine hcall.mono (fun e w' hl => ?_)
  obtain ⟨v, ρ', Zn', rfl, hp', hres⟩ := hl
  refine hK _ _ ?_
  rw [hd]
  -- the caller's state behind the call
  let ρn : Nat → Value := fun c => match ixN 0 ids c with
    | some j => ρ' j
    | none => ρ c
  let ups := post.map (fun p => (mN ids far p.1, mpB (outl up (mN ids far)) p.2))
  have ukeys : ups.map (·.1) = ids := by
    apply List.ext_getElem?
    intro j
    rw [List.map_map, List.getElem?_map]
    by_cases hj : j < post.length
    · obtain ⟨x, hx, _⟩ := bkQ hj
      rw [hx, getM (by omega)]; rfl
    · rw [List.getElem?_eq_none (by omega), List.getElem?_eq_none (by omega)]; rfl
  have gmem : ∀ {l : List (Nat × Blk)} {k : Nat} {x : Blk}, nodupN (l.map (·.1)) = true → (k, x) ∈ l → gBo l k = some x := by
    intro l
    induction l with
    | nil => intro k x _ h; cases h
    | cons p r ih =>
      intro k x hn h
      obtain ⟨q, y⟩ := p
      have h' : ((r.map (·.1)).all (fun y => !(Nat.beq q y)) && nodupN (r.map (·.1))) = true := hn
      rw [Bool.and_eq_true] at h'
      show (match Nat.beq k q with | true => some y | false => gBo r k) = some x
      rcases List.mem_cons.1 h with e | e
      · injection e with h1 h2; subst h1; subst h2
        rw [Nat.beq_refl]
      · have hne : Nat.beq k q = false := by
          cases hb : Nat.beq k q with
          | false => rfl
          | true =>
            have := beq_t hb
            subst this
            have := List.all_eq_true.1 h'.1 k (List.mem_map.2 ⟨(k, x), e, rfl⟩)
            simp at this
        rw [hne]
        exact ih h'.2 e
  have up1 : ∀ {j : Nat}, j < post.length → upF bk ups (mN ids far j) = mpB (outl up (mN ids far)) (gB post j) := fun {j} hj => by
    obtain ⟨x, hx, hg⟩ := bkQ hj
    unfold upF
    rw [gmem (l := ups) (x := mpB (outl up (mN ids far)) x) (by rw [ukeys]; exact hnd) (List.mem_map.2 ⟨_, List.mem_of_getElem? hx, rfl⟩), hg]
  have up2 : ∀ {c : Nat}, c ∉ ids → upF bk ups c = bk c := fun {c} hc => by
    unfold upF
    rw [gBo_none (by rw [ukeys]; exact hc)]
  have rn1 : ∀ {j : Nat}, j < post.length → ρn (mN ids far j) = ρ' j := fun {j} hj => by
    show (match ixN 0 ids (mN ids far j) with | some j => ρ' j | none => ρ (mN ids far j)) = ρ' j
    rw [ixN_of hnd (getM (by omega))]
  have rn2 : ∀ {c : Nat}, c ∉ ids → ρn c = ρ c := fun {c} hc => by
    show (match ixN 0 ids c with | some j => ρ' j | none => ρ c) = ρ c
    cases hx : ixN 0 ids c with
    | none => rfl
    | some k =>
      obtain ⟨_, h1⟩ := ixN_some hx
      exact absurd (List.mem_of_getElem? h1) hc
  obtain ⟨ω', d'⟩ := hp'.deep
  let ωn : Nat → Tr := fun c => match ixN 0 ids c with
    | some j => ω' j
    | none => ω c
  have wn1 : ∀ {j : Nat}, j < post.length → ωn (mN ids far j) = ω' j := fun {j} hj => by
    show (match ixN 0 ids (mN ids far j) with | some j => ω' j | none => ω (mN ids far j)) = ω' j
    rw [ixN_of hnd (getM (by omega))]
  have wn2 : ∀ {c : Nat}, c ∉ ids → ωn c = ω c := fun {c} hc => by
    show (match ixN 0 ids c with | some j => ω' j | none => ω c) = ω c
    cases hx : ixN 0 ids c with
    | none => rfl
    | some k =>
      obtain ⟨_, h1⟩ := ixN_some hx
      exact absurd (List.mem_of_getElem? h1) hc
  have getIds : ∀ {c : Nat}, c ∈ ids → ∃ j, j < post.length ∧ mN ids far j = c := fun {c} hc => by
    obtain ⟨j, hj, hb⟩ := List.getElem_of_mem hc
    refine ⟨j, by omega, ?_⟩
    have := getM hj
    rw [List.getElem?_eq_getElem hj, hb] at this
    injection this with this
    exact this.symm
  have rhoOld : ∀ {j : Nat}, j < pre.length → ρ' j = ρ (mN ids far j) := fun {j} hj => (hp'.fix j (ρ (mN ids far j)) (if_pos hj)).2
  have HB : Bw (fz E' Zn') (fz E Zn') ρ' ρn (gB post) (upF bk ups) (mN ids far) up := by
    refine ⟨fun k hk => hk, fun k hk => ?_, fun b hb => ?_⟩
    · have hk' : fz E Zn up k := hk
      cases up with
      | o => rcases hk' with h | h
             · exact .inl h
             · exact .inr (hp'.zi k h)
      | n => exact hp'.zi k hk'
      | u => exact hk'
    · have hj := postF hb
      refine ⟨?_, rn1 hj⟩
      rw [up1 hj]
      exact mpB_fresh hb
  have ownNew : ∀ {c k : Nat}, c ∈ ids → OwnD ρn ωn (upF bk ups) c k → ∃ j, j < post.length ∧ mN ids far j = c ∧ OwnD ρ' ω' (gB post) j k := fun {c k} hc ho => by
    obtain ⟨j, hj, rfl⟩ := getIds hc
    have h1 := ho.1
    have h2 := ho.2
    rw [up1 hj] at h1 h2
    rw [rn1 hj, wn1 hj] at h2
    exact ⟨j, hj, rfl, mpB_live h1, h2.imp id fun h => ⟨mpB_isD h.1, h.2⟩⟩
  refine ⟨ρn, Zn', hs.updD dd ωn (fun c => c ∈ ids) hp'.os hp'.tape hp'.output hp'.size (fun k hk ho => ?_) (fun c hc => rn2 hc) (fun c hc => up2 hc) (fun c hc => wn2 hc) (fun c hc hne => ?_) (fun k hk => hp'.zi k hk) (fun k hk => ?_) (fun c hc m => ?_) (fun c op ds e sz xs hc m hbk => ?_) (fun c hc hbk => ?_) (fun c k hc ho => ?_) (fun c k hc ho _ => ?_) (fun c c' k hc hc' ho ho' => ?_) (put_defers _ _ _) (put_size _ _ _) (fun i => ?_)⟩
  · exact hp'.keep k ⟨hk, fun j hj => ho _ (memM (by omega))⟩
  · obtain ⟨j, hj, rfl⟩ := getIds hc
    have hj2 : j < pre.length := by
      rcases Nat.lt_or_ge j pre.length with h | h
      · exact h
      · exact absurd (newM (by omega) (by omega)) hne
    exact ⟨(HB.ids j (postN hj)).1, (rn1 hj).trans (rhoOld hj2)⟩
  · rcases (hp'.zn k hk).2 with h | h
    · exact .inl h
    · refine .inr ⟨(hp'.zn k hk).1, ?_⟩
      rcases Nat.lt_or_ge k w.heap.size with hlt | hge
      · right
        by_cases hx : ∃ j, j < pre.length ∧ OwnD ρ ω bk (mN ids far j) k
        · obtain ⟨j, hj, ho⟩ := hx
          exact ⟨_, memM (by omega), ho⟩
        · exact absurd ⟨hlt, fun j hj ho => hx ⟨j, hj, ho⟩⟩ h
      · exact .inl hge
  · obtain ⟨j, hj, rfl⟩ := getIds hc
    rw [rn1 hj, up1 hj]
    exact outB_ok HB (hp'.blk j)
  · obtain ⟨j, hj, rfl⟩ := getIds hc
    rw [up1 hj] at hbk
    rw [rn1 hj, wn1 hj]
    obtain ⟨rfl, h2⟩ := mpB_drow hbk
    exact (d'.row j _ _ _ _ _ h2).closed (fun k hk => hk)
  · obtain ⟨j, hj, rfl⟩ := getIds hc
    rw [up1 hj] at hbk
    rw [rn1 hj, wn1 hj]
    exact d'.tree j (mpB_isD hbk)
  · obtain ⟨j, hj, rfl, ho'⟩ := ownNew hc ho
    obtain ⟨h1, h2⟩ := d'.out j k ho'
    refine ⟨?_, h2⟩
    rcases Nat.lt_or_ge k w.heap.size with hlt | hge
    · right
      by_cases hx : ∃ j, j < pre.length ∧ OwnD ρ ω bk (mN ids far j) k
      · obtain ⟨j, hj, ho⟩ := hx
        exact ⟨_, memM (by omega), ho⟩
      · exact absurd ⟨hlt, fun j hj ho => hx ⟨j, hj, ho⟩⟩ h1
    · exact .inl hge
  · obtain ⟨j, hj, rfl, ho'⟩ := ownNew hc ho
    exact d'.lt j k ho'
  · obtain ⟨j, hj, rfl, h1⟩ := ownNew hc ho
    obtain ⟨j', hj', rfl, h2⟩ := ownNew hc' ho'
    rw [d'.sep j j' k h1 h2]
  · cases d with
    | none => exact .inl ⟨rfl, rfl⟩
    | some e =>
      have he : e < a.tmps.size := by rw [hs.ntmps]; exact Nat.blt_eq ▸ hlt e rfl
      rw [put_eval he]
      by_cases hi : i = e
      · right
        intro m
        show RepT (fz E Zn') w' ρn (upF bk ups) (if i = e then _ else tm i) (if i = e then v else _)
        rw [if_pos hi, if_pos hi]
        exact out4_ok HB hres
      · left
        show (if i = e then _ else tm i) = tm i ∧ _
        rw [if_neg hi, if_neg hi]
        exact ⟨rfl, rfl⟩
end
end Go.Proofs.YtahmbcgolnplgaaDoorA
