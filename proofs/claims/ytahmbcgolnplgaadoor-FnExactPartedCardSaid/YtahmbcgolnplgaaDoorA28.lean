/- The abstract machine, twenty-eighth part: deep rows: made ones, short words. No claim lies here. -/
import Derived.Test.YtahmbcgolnplgaaDoorA27
set_option linter.unusedVariables false
set_option linter.unusedSimpArgs false
namespace Go.Proofs.YtahmbcgolnplgaaDoorA
open Go Go.RowKit
/-- Leaves of a zero value, of a deep row. -/
inductive ZD : List Ds → List AV → List Value → Prop
  | nil {ds : List Ds} : ZD ds [] []
  | v {ds : List Ds} {u : Value} {l : List AV} {r : List Value} : ZD ds l r → ZD (.v :: ds) (.lit u :: l) (u :: r)
  | own {e : Nat} {ds ds' : List Ds} {z : Fl} {sz : Nat} {l : List AV} {r : List Value} : Nat.blt 0 sz = true → ZD ds l r → ZD (.own e ds' :: ds) (.sl z sz [] :: l) (.slice none 0 0 :: r)
theorem ZD.len : ∀ {ds : List Ds} {l : List AV} {r : List Value}, ZD ds l r → l.length = r.length
  | _, _, _, .nil => rfl
  | _, _, _, .v h => by simp [h.len]
  | _, _, _, .own _ h => by simp [h.len]
theorem ZD.get {Zf : Fl → Nat → Prop} {w : World} {ρ : Nat → Value} {bk : Nat → Blk} {op : Bool} {t : Tr} (ht : ∀ p, t p = none) : ∀ {ds : List Ds} {l : List AV} {r : List Value}, ZD ds l r → ∀ {i : Nat} {lv : AV}, l[i]? = some lv → ∃ u, r[i]? = some u ∧ (u.oneCell' = true → LfD Zf w ρ bk op t (ds.getD i .v) lv u)
  | _, _, _, .nil, i, lv, h => by simp at h
  | _, _, _, .v (u := u) h, i, lv, hi => by
    cases i with
    | zero => simp at hi; subst hi; exact ⟨u, rfl, fun h1 => .inl (.v (.lit h1))⟩
    | succ i => exact h.get ht (i := i) (by simpa using hi)
  | _, _, _, .own (e := e) (sz := sz) h0 h, i, lv, hi => by
    cases i with
    | zero => simp at hi; subst hi; exact ⟨_, rfl, fun _ => .inl (.own [] (fun _ _ => undef) (Nat.blt_eq ▸ h0) (ownsR_nil w 0 e sz) (ht []).symm (fun j x h => by simp at h) (fun j x i lv h => by simp at h) (fun j x i lv h => by simp at h))⟩
    | succ i => exact h.get ht (i := i) (by simpa using hi)
section
variable {P : Program} {E : Env} {nt : Nat} {s : S} {o : Oper} {d : Nat}
theorem r_msD {T e sz bytes nb : Nat} {ds : List Ds} {x y : Operand} {k k' : IntKind} {m : Int} {zs : List Value} {v : AV} {xs : List AV} (hop : o.op = .makeSlice T x y) (hd : o.dst = some d) (hlt : Nat.blt d nt = true) (hnb : gB s.bk nb = .fresh) (hx : opd s x = .lit (.int k m)) (hy : opd s y = .lit (.int k' m)) (hT : sliceT P T e sz = true) (hz : zeroOf P e = some zs) (h1 : zs.all (·.oneCell') = true) (hzl : Nat.beq zs.length sz = true) (hsz : Nat.blt 0 sz = true) (hby : bytesIs P e bytes = true) (hb0 : Nat.blt 0 bytes = true)
    (h0 : 0 ≤ m) (hle : bytes * m.toNat ≤ 281474976710656) (hv : ZD ds v.leaves zs) (hxs : List.replicate m.toNat v = xs) : Okv P E nt o s ⟨some d, .row nb, [(nb, .drow true ds e sz xs)]⟩ (lkO x ++ lkO y) [nb] :=
  okv_rowD hd hlt hnb fun tm bk ρ Zn a w hag hs => by
    obtain ⟨hu, hsi⟩ := sliceT_of hT
    have hzl := beq_t hzl
    have hsz' : 0 < sz := Nat.blt_eq ▸ hsz
    have hb0' : 0 < bytes := Nat.blt_eq ▸ hb0
    have e1 := St.opd (s := s) hs x (fun t ht => hag.1 t (List.mem_append_left _ ht))
    have e2 := St.opd (s := s) hs y (fun t ht => hag.1 t (List.mem_append_right _ ht))
    rw [hx] at e1
    rw [hy] at e2
    have e1 := rep_lit e1
    have e2 := rep_lit e2
    unfold zeroOf at hz
    unfold bytesIs at hby
    unfold sizeIs at hsi
    cases hi : P.info? e with
    | none => rw [hi] at hz; cases hz
    | some i =>
      rw [hi] at hz hby hsi
      simp only at hz
      cases hzz : i.zero with
      | none => rw [hzz] at hz; cases hz
      | some z =>
        rw [hzz] at hz
        injection hz with hz
        have hm : m = ((m.toNat : Nat) : Int) := (Int.toNat_of_nonneg h0).symm
        have hlem : m.toNat ≤ maxLen := by
          have : m.toNat ≤ bytes * m.toNat := Nat.le_mul_of_pos_left _ hb0'
          simp only [maxLen]; omega
        obtain ⟨w', hr, ho, hg⟩ := run_make_full (P := P) w 0 T e i z sz hu hi hzz (beq_t hsi) k k' m.toNat (by rw [beq_t hby]; exact hle) hlem (Nat.zero_le _)
        rw [← hm] at hr
        have hlx : xs.length = m.toNat := by rw [← hxs]; simp
        refine ⟨.slice (some ⟨w.heap.size, 0, none⟩) m.toNat m.toNat, w', ?_, hg, fun q hq => by simp [Value.ownBlock] at hq; omega, fun ρ' bk' mm => ⟨hsz', _, by rw [hlx]; exact ownsR.of ho, fun j x hj => ?_, fun j x i' lv hj hi' => ?_⟩⟩
        · unfold execOp
          simp only [hop]
          rw [Sem.run_bind, e1, e2, hr]; rfl
        · rw [← hxs] at hj
          have := List.eq_of_mem_replicate (List.mem_of_getElem? hj)
          rw [this, hv.len]; exact hzl
        · have hjl : j < m.toNat := by rw [← hlx]; exact (List.getElem?_eq_some_iff.1 hj).1
          rw [← hxs] at hj
          have := List.eq_of_mem_replicate (List.mem_of_getElem? hj)
          subst this
          obtain ⟨u, hu', hur⟩ := hv.get (Zf := fz E Zn) (w := w') (ρ := ρ') (bk := bk') (op := true) (t := fun _ => none) (fun _ => rfl) hi'
          have hil : i' < sz := by rw [← hzl]; exact (List.getElem?_eq_some_iff.1 hu').1
          have hzc : z.cells.size = sz := by rw [← hzl, ← hz]; simp
          refine ⟨u, ?_, hur (List.all_eq_true.1 h1 u (List.mem_of_getElem? hu'))⟩
          have hlt2 : j * sz + i' < m.toNat * sz := by
            have : (j + 1) * sz ≤ m.toNat * sz := Nat.mul_le_mul_right _ hjl
            rw [Nat.succ_mul] at this
            omega
          have hmod : (j * sz + i') % sz = i' := by rw [Nat.add_comm, Nat.add_mul_mod_self_right]; exact Nat.mod_eq_of_lt hil
          have hmm : i' < z.cells.size := by omega
          rw [← hz] at hu'
          have hzi : z.cells[i']! = u := by
            rw [getElem!_pos z.cells i' hmm]
            rw [Array.getElem?_toList, Array.getElem?_eq_getElem hmm] at hu'
            injection hu'
          simp [madeCells, hlt2, hzc, hmod, hzi]
/-! Short words. -/
theorem tk {op : Bool} {ds ds' : List Ds} {e sz e' sz' i : Nat} {z : Fl} {xs ys zz : List AV} {X : AV} (b c j : Nat) (X' : AV) (hx : xs[i]? = some X) (hz : xs.set i X' = zz) (hj : X.leaves[j]? = some (.sl z sz' ys)) (hb : gB s.bk b = .drow op ds e sz xs := by rfl) (hd : ds.getD j .v = .own e' ds' := by rfl) (hc : gB s.bk c = .fresh := by rfl) (hX : X'.leaves = X.leaves.set j (.row c) := by rfl) :
    Gh E nt s [(b, .drow true ds e sz zz), (c, blkOf ds' e' sz' ys)] [b, c] := gh_take hb hc hx hj hd hX hz
theorem pk {ds ds' : List Ds} {e sz e' sz' i : Nat} {xs ys zz : List AV} {X : AV} (b c j : Nat) (X' : AV) (hx : xs[i]? = some X) (hz : xs.set i X' = zz) (hj : X.leaves[j]? = some (.row c)) (hb : gB s.bk b = .drow true ds e sz xs := by rfl) (hd : ds.getD j .v = .own e' ds' := by rfl) (hc : gB s.bk c = blkOf ds' e' sz' ys := by rfl) (hX : X'.leaves = X.leaves.set j (.sl .n sz' ys) := by rfl) :
    Gh E nt s [(b, .drow true ds e sz zz), (c, .gone)] [b, c] := gh_pack hb hc hx hj hd hX hz
/-- Told otherwise, and closed. -/
theorem sealD {op : Bool} {ds : List Ds} {e sz : Nat} {xs ys : List AV} (b : Nat) (h : xs = ys) (hc : clsL ys) (hb : gB s.bk b = .drow op ds e sz xs := by rfl) : Gh E nt s [(b, .drow false ds e sz ys)] [b] := by
  subst h; exact gh_close hb hc
theorem liftD (b : Nat) (ds : List Ds) {e sz : Nat} (hb : gB s.bk b = .row e sz [] := by rfl) : Gh E nt s [(b, .drow false ds e sz [])] [b] := gh_lift ds hb
theorem ac_g1 {tm : List (Nat × AV)} {bk : List (Nat × Blk)} {K : Act → World → Prop} {b : Nat} {y : Blk} {tl : List Nat} (h : Gh E nt ⟨tm, bk⟩ [(b, y)] tl) (hk : ACont E nt ⟨tm, (b, y) :: bk⟩ K) : ACont E nt ⟨tm, bk⟩ K := ac_gh h hk
theorem ac_g2 {tm : List (Nat × AV)} {bk : List (Nat × Blk)} {K : Act → World → Prop} {b c : Nat} {y z : Blk} {tl : List Nat} (h : Gh E nt ⟨tm, bk⟩ [(b, y), (c, z)] tl) (hk : ACont E nt ⟨tm, (b, y) :: (c, z) :: bk⟩ K) : ACont E nt ⟨tm, bk⟩ K := ac_gh h hk
theorem ixD {T e' sz b : Nat} {op : Bool} {ds : List Ds} {x y : Operand} {xs : List AV} {k : IntKind} {i : Int} (e : Nat) (h0 : 0 ≤ i) (h1 : i < (xs.length : Int)) (hop : o.op = .indexAddr T x y := by rfl) (hx : opd s x = .row b := by rfl) (hb : gB s.bk b = .drow op ds e' sz xs := by rfl) (hy : opd s y = .lit (.int k i) := by rfl) (hT : sliceT P T e sz = true := by kernel_rfl) (hd : o.dst = some d := by rfl) (hlt : Nat.blt d nt = true := by rfl) : Okv P E nt o s ⟨some d, .elp b sz i.toNat 0, []⟩ (lkO x ++ lkO y) [b] := r_ixD hop hd hlt hx hb hy h0 h1 hT (by simp)
theorem lnD {T : TypeId} {x : Operand} {b e sz : Nat} {op : Bool} {ds : List Ds} {xs : List AV} {n : Int} (hn : (xs.length : Int) = n) (hop : o.op = .call { callee := .builtin .len, args := #[x], argTypes := #[T] } := by rfl) (hx : opd s x = .row b := by rfl) (hb : gB s.bk b = .drow op ds e sz xs := by rfl) (hT : isSliceT P T = true := by kernel_rfl) (hd : o.dst = some d := by rfl) (hlt : Nat.blt d nt = true := by rfl) : Okv P E nt o s ⟨some d, .lit (.int .i64 n), []⟩ (lkO x) [b] := r_lnD hop hd hlt hx hb hn hT
theorem ldD {T b e sz i j : Nat} {op : Bool} {ds : List Ds} {x : Operand} {xs : List AV} {X : AV} (y : AV) (hX : xs[i]? = some X) (hy : X.leaves[j]? = some y) (hop : o.op = .load T x := by rfl) (hx : opd s x = .elp b sz i j := by rfl) (hb : gB s.bk b = .drow op ds e sz xs := by rfl) (hse : seen y = true := by rfl) (hT : scalarT P T = true := by kernel_rfl) (hd : o.dst = some d := by rfl) (hlt : Nat.blt d nt = true := by rfl) : Okv P E nt o s ⟨some d, y, []⟩ (lkO x) [b] := r_ldD hop hd hlt hx hb hX hy hse hT
theorem ldDA {T b e sz i j : Nat} {op : Bool} {ds : List Ds} {x : Operand} {xs : List AV} {X : AV} (n : Nat) (l : List AV) (hX : xs[i]? = some X) (hl : (X.leaves.drop j).take n = l) (hop : o.op = .load T x := by rfl) (hx : opd s x = .elp b sz i j := by rfl) (hb : gB s.bk b = .drow op ds e sz xs := by rfl) (hn : l.length = n := by rfl) (hse : l.all seen = true := by rfl) (hT : aggT P T n = true := by kernel_rfl) (hd : o.dst = some d := by rfl) (hlt : Nat.blt d nt = true := by rfl) : Okv P E nt o s ⟨some d, .agg l, []⟩ (lkO x) [b] := r_ldDA hop hd hlt hx hb hX hl hn hse hT
theorem stD {T b e i : Nat} {op : Bool} {p x : Operand} {y X : AV} {xs zz : List AV} (sz : Nat) (ds : List Ds) (j n : Nat) (l : List AV) (X' : AV) (hX : xs[i]? = some X) (hzz : xs.set i X' = zz) (hX' : X'.leaves = X.leaves.take j ++ l ++ X.leaves.drop (j + n) := by rfl) (hop : o.op = .store T p x := by rfl) (hp : opd s p = .elp b sz i j := by rfl) (hb : gB s.bk b = .drow op ds e sz xs := by rfl) (hx : opo s x = some y := by rfl) (hy : notT y = true := by rfl) (hT : sizeIs P T n = true := by kernel_rfl) (hn : Nat.beq y.leaves.length n = true := by rfl) (hle : Nat.ble (j + n) sz = true := by rfl) (hd : o.dst = none := by rfl) (hlt : LtA ds sz j y.leaves l := by repeat (first | exact .nil | refine .cons .row ?_ | refine .cons .v ?_ | refine .cons (.nil rfl) ?_)) :
    Okv P E nt o s ⟨none, .junk, [(b, .drow true ds e sz zz)]⟩ (lkO p ++ lkO x) [b] := r_stD hop hd hp hb (opo_some hx) hy hT hn hX hlt hle hX' hzz
theorem bslD {T len : Nat} {parts : Array (Nat × Operand)} {l : List AV} (nb e sz : Nat) (ds : List Ds) (zs : List Value) (xs : List AV) (hop : o.op = .buildSlice T len parts := by rfl) (hnb : gB s.bk nb = .fresh := by rfl) (hT : sliceT P T e sz = true := by kernel_rfl) (hz : zeroOf P e = some zs := by kernel_rfl) (h1 : zs.all (·.oneCell') = true := by rfl) (hzl : Nat.beq zs.length sz = true := by rfl) (hsz : Nat.blt 0 sz = true := by rfl) (hcap : Nat.ble (len * sz) 16777216 = true := by rfl)
    (hl : fillS s ((List.range len).map fun i => (i * sz, sz)) (initA zs sz len) parts.toList = some l := by rfl) (hxl : lensIs sz xs = true := by rfl) (hlen : Nat.beq xs.length len = true := by rfl) (hd : o.dst = some d := by rfl) (hlt : Nat.blt d nt = true := by rfl) (hx : LtA ds sz 0 l (xs.flatMap AV.leaves) := by repeat (first | exact .nil | refine .cons .row ?_ | refine .cons .v ?_ | refine .cons (.nil rfl) ?_)) : Okv P E nt o s ⟨some d, .row nb, [(nb, .drow true ds e sz xs)]⟩ (parts.toList.flatMap fun p => lkO p.2) [nb] := r_bsD hop hd hlt hnb hT hz h1 hzl hsz hcap hl hx hxl hlen
theorem mksD {T : Nat} {x y : Operand} {k k' : IntKind} {m : Int} (nb e sz bytes : Nat) (ds : List Ds) (zs : List Value) (v : AV) (xs : List AV) (h0 : 0 ≤ m) (hle : bytes * m.toNat ≤ 281474976710656) (hxs : List.replicate m.toNat v = xs) (hop : o.op = .makeSlice T x y := by rfl) (hx : opd s x = .lit (.int k m) := by rfl) (hy : opd s y = .lit (.int k' m) := by rfl) (hnb : gB s.bk nb = .fresh := by rfl) (hT : sliceT P T e sz = true := by kernel_rfl) (hz : zeroOf P e = some zs := by kernel_rfl) (h1 : zs.all (·.oneCell') = true := by rfl) (hzl : Nat.beq zs.length sz = true := by rfl) (hsz : Nat.blt 0 sz = true := by rfl) (hby : bytesIs P e bytes = true := by kernel_rfl) (hb0 : Nat.blt 0 bytes = true := by rfl) (hd : o.dst = some d := by rfl) (hlt : Nat.blt d nt = true := by rfl) (hv : ZD ds v.leaves zs := by repeat (first | exact .nil | refine .v ?_ | refine .own rfl ?_)) : Okv P E nt o s ⟨some d, .row nb, [(nb, .drow true ds e sz xs)]⟩ (lkO x ++ lkO y) [nb] := r_msD hop hd hlt hnb hx hy hT hz h1 hzl hsz hby hb0 h0 hle hv hxs
theorem apD {T b c : Nat} {op1 op2 : Bool} {ds : List Ds} {x y : Operand} {xs ys : List AV} (nb e sz bytes : Nat) (zs : List Value) (zz : List AV) (hlen : (xs.length + ys.length) * bytes ≤ 140737488355328) (hzz : xs ++ ys = zz) (hop : o.op = .call { callee := .builtin .append, args := #[x, y], argTypes := #[T, T] } := by rfl) (hx : opd s x = .row b := by rfl) (hb : gB s.bk b = .drow op1 ds e sz xs := by rfl) (hy : opd s y = .row c := by rfl) (hc : gB s.bk c = .drow op2 ds e sz ys := by rfl) (hnb : gB s.bk nb = .fresh := by rfl) (hbc : Nat.beq b c = false := by rfl) (hT : sliceT P T e sz = true := by kernel_rfl) (hz : zeroOf P e = some zs := by kernel_rfl) (hzl : Nat.beq zs.length sz = true := by rfl) (hby : bytesIs P e bytes = true := by kernel_rfl) (hb0 : Nat.blt 0 bytes = true := by rfl) (hd : o.dst = some d := by rfl) (hlt : Nat.blt d nt = true := by rfl) :
    Okv P E nt o s ⟨some d, .row nb, [(b, .gone), (c, .gone), (nb, .drow true ds e sz zz)]⟩ (lkO x ++ lkO y) [nb, b, c] := r_apD hop hd hlt hnb hx hb hy hc hbc hT hz hzl hby hb0 hlen hzz
end
section
variable {α : Type} {f : α → AV} {l : List α}
theorem clE (h : ∀ (x : α) (lv : AV), lv ∈ (f x).leaves → tight lv = true) : clsL (l.map f) := by
  intro x hx lv hlv
  obtain ⟨y, _, rfl⟩ := List.mem_map.1 hx
  exact h y lv hlv
theorem clL {β : Type} {g : β → AV} {sz : Nat} {l : List (List β)} : clsL (l.map (eL sz g)) := clE fun x lv h => by
  have := List.mem_singleton.1 h
  subst this; rfl
theorem setXG {X : AV} {i : Int} (h0 : 0 ≤ i) (h1 : i < (l.length : Int)) : ((l.map f).set i.toNat X)[i.toNat]? = some X := List.getElem?_set_self (by rw [List.length_map]; omega)
theorem setXX {xs : List AV} {i : Nat} {X Y : AV} : (xs.set i X).set i Y = xs.set i Y := List.set_set ..
theorem appX {X : AV} : (l.map f ++ [X])[l.length]? = some X := by rw [List.getElem?_append_right (by simp)]; simp
theorem appXX {X Y : AV} : (l.map f ++ [X]).set l.length Y = l.map f ++ [Y] := by rw [List.set_append_right _ _ (by simp)]; simp
theorem appSeal (v : α) : l.map f ++ [f v] = (l ++ [v]).map f := by simp
theorem setSeal (i : Nat) (v : α) : (l.map f).set i (f v) = (l.set i v).map f := (List.map_set ..).symm
theorem litSeal (v : α) : [f v] = [v].map f := rfl
theorem ltS {xs : List AV} {i : Nat} {X : AV} {k : Int} (h : k < (xs.length : Int)) : k < ((xs.set i X).length : Int) := by rw [List.length_set]; exact h
theorem lenS {i : Nat} {X : AV} : (((l.map f).set i X).length : Int) = (l.length : Int) := by rw [List.length_set, List.length_map]
theorem lenA {X : AV} : ((l.map f ++ [X]).length : Int) = ((l.length + 1 : Nat) : Int) := by simp
theorem apbD {N b : Nat} {xs ys : List AV} {m n : Nat} (e1 : xs.length = m) (e2 : ys.length = n) (h : m + n < N) (hN : Nat.ble (N * b) 140737488355328 = true) : (xs.length + ys.length) * b ≤ 140737488355328 := by
  subst e1; subst e2
  exact Nat.le_trans (Nat.mul_le_mul_right b (Nat.le_of_lt h)) (Nat.le_of_ble_eq_true hN)
end
/-- A row that comes, frozen as it comes. -/
theorem relF_frzR {E : Env} {nt : Nat} {tm : Nat → AV} {bk : Nat → Blk} {a : Act} {w : World} {d b e sz : Nat} {xs : List AV} (h : RelF E nt tm bk a w) (hd : tm d = .row b) (hb : bk b = .row e sz xs) : RelF E nt (fun i => if i = d then .sl .n sz xs else tm i) (fun i => if i = b then .gone else bk i) a w := by
  obtain ⟨ρ, Zn, hs⟩ := h
  have hrow := hs.blk b
  rw [hb] at hrow
  have hlive : live (bk b) = true := by rw [hb]; rfl
  refine ⟨ρ, fun k => Zn k ∨ Own ρ bk b k, ?_⟩
  have own' : ∀ i k, Own ρ (fun i => if i = b then Blk.gone else bk i) i k → i ≠ b ∧ Own ρ bk i k := fun i k ho => by
    by_cases hi : i = b
    · have := ho.1; simp only [hi, if_true] at this; cases this
    · exact ⟨hi, by have := ho.1; simp only [if_neg hi] at this; exact ⟨this, ho.2⟩⟩
  refine hs.upd (fun i => i = b) rfl rfl rfl (Nat.le_refl _) (fun _ _ _ => rfl) (fun _ _ => rfl) (fun i hi => if_neg hi) (fun i hi hf => ⟨by simp [show i = b from hi], rfl⟩) (fun k hk => .inl hk) (fun k hk => ?_) (fun i hi m => ?_) (fun i k hi ho => absurd hi (own' i k ho).1) (fun i i' k hi hi' _ _ => hi.trans hi'.symm) rfl rfl (fun i => ?_) (fun i hi => ⟨by rw [show i = b from hi, hb]; rfl, by simp [show i = b from hi, isD]⟩)
  · rcases hk with hk | hk
    · exact .inl hk
    · exact .inr ⟨hs.own_lt hk, .inr ⟨b, rfl, hk⟩⟩
  · simp only [show i = b from hi, if_true]; trivial
  · by_cases hi : i = d
    · right
      intro m
      subst hi
      have h1 := hs.tmp i
      rw [hd] at h1
      obtain ⟨_, h2, _⟩ := rep_C00 h1 rfl
      simp only [if_true]
      rw [h2]
      exact rep_of_C (.inl (row_sl (z := .n) hrow (fun k hk => .inl hk) (fun k hk => .inr ⟨hlive, hk⟩)))
    · exact .inl ⟨if_neg hi, rfl⟩
theorem okv_frz1 {P : Program} {E : Env} {nt : Nat} {s : S} {o : Oper} {d b e sz : Nat} {xs : List AV} {lk tl : List Nat} (h : Okv P E nt o s ⟨some d, .row b, [(b, .row e sz xs)]⟩ lk tl) : Okv P E nt o s ⟨some d, .sl .n sz xs, [(b, .gone)]⟩ lk tl := by
  intro tm bk hag a w hr
  obtain ⟨m, v, w', h1, h2, h3⟩ := h tm bk hag a w hr
  refine ⟨m, v, w', h1, h2, ?_⟩
  have h4 := relF_frzR (d := d) h3 (by show (if d = d then AV.row b else tm d) = _; rw [if_pos rfl]) (show upF bk [(b, .row e sz xs)] b = .row e sz xs by rw [upF_one]; exact if_pos rfl)
  have e1 : (fun i => if i = d then AV.sl .n sz xs else putF tm (some d) (.row b) i) = putF tm (some d) (.sl .n sz xs) := by
    funext i
    show (if i = d then _ else if i = d then _ else _) = if i = d then _ else _
    by_cases hi : i = d <;> simp [hi]
  have e2 : (fun i => if i = b then Blk.gone else upF bk [(b, .row e sz xs)] i) = upF bk [(b, .gone)] := by
    funext i
    rw [upF_one, upF_one]
    by_cases hi : i = b <;> simp [hi]
  have h5 : RelF E nt (putF tm (some d) (.sl .n sz xs)) (upF bk [(b, .gone)]) (a.put o.dst v) w' := by rw [← e1, ← e2]; exact h4
  exact h5
theorem okv_frz2 {P : Program} {E : Env} {nt : Nat} {s : S} {o : Oper} {d c b e sz : Nat} {X : Blk} {xs : List AV} {lk tl : List Nat} (h : Okv P E nt o s ⟨some d, .row b, [(c, X), (b, .row e sz xs)]⟩ lk tl) (hcb : Nat.beq c b = false := by rfl) : Okv P E nt o s ⟨some d, .sl .n sz xs, [(c, X), (b, .gone)]⟩ lk tl := by
  intro tm bk hag a w hr
  obtain ⟨m, v, w', h1, h2, h3⟩ := h tm bk hag a w hr
  refine ⟨m, v, w', h1, h2, ?_⟩
  have hne := beq_f hcb
  have h4 := relF_frzR (d := d) h3 (by show (if d = d then AV.row b else tm d) = _; rw [if_pos rfl]) (show upF bk [(c, X), (b, .row e sz xs)] b = .row e sz xs by rw [upF_two]; exact (if_neg (Ne.symm hne)).trans (if_pos rfl))
  have e1 : (fun i => if i = d then AV.sl .n sz xs else putF tm (some d) (.row b) i) = putF tm (some d) (.sl .n sz xs) := by
    funext i
    show (if i = d then _ else if i = d then _ else _) = if i = d then _ else _
    by_cases hi : i = d <;> simp [hi]
  have e2 : (fun i => if i = b then Blk.gone else upF bk [(c, X), (b, .row e sz xs)] i) = upF bk [(c, X), (b, .gone)] := by
    funext i
    rw [upF_two, upF_two]
    by_cases hc : i = c
    · subst hc; simp [hne]
    · by_cases hi : i = b
      · subst hi; simp [Ne.symm hne]
      · simp [hi, hc]
  have h5 : RelF E nt (putF tm (some d) (.sl .n sz xs)) (upF bk [(c, X), (b, .gone)]) (a.put o.dst v) w' := by rw [← e1, ← e2]; exact h4
  exact h5
/-- A slice that is nil is one that nobody writes to. -/
inductive NzL : List AV → List AV → Prop
  | nil : NzL [] []
  | keep {x : AV} {l m : List AV} : NzL l m → NzL (x :: l) (x :: m)
  | nz {z : Fl} {sz : Nat} {l m : List AV} : Nat.blt 0 sz = true → NzL l m → NzL (.lit (.slice none 0 0) :: l) (.sl z sz [] :: m)
theorem NzL.ok {Zf : Fl → Nat → Prop} {w : World} {ρ : Nat → Value} {bk : Nat → Blk} : ∀ {l m : List AV}, NzL l m → ∀ {cs : List Value}, Fa (RepC Zf w ρ bk) l cs → Fa (RepC Zf w ρ bk) m cs
  | _, _, .nil, cs, h => h
  | _, _, .keep h0, cs, h => by
    obtain ⟨v, vs, rfl, h1, h2⟩ := h.uncons
    exact Fa.cons h1 (h0.ok h2)
  | _, _, .nz hsz h0, cs, h => by
    obtain ⟨v, vs, rfl, h1, h2⟩ := h.uncons
    refine Fa.cons ?_ (h0.ok h2)
    rcases h1 with ⟨rfl, _⟩ | ⟨_, _, _, h1, _⟩
    · exact .inl (repV_nil (Nat.blt_eq ▸ hsz))
    · cases h1
theorem ac_nz {E : Env} {nt : Nat} {tm : List (Nat × AV)} {bk : List (Nat × Blk)} {K : Act → World → Prop} {l : List AV} (t : Nat) (l' : List AV) (h : ACont E nt ⟨(t, .agg l') :: tm, bk⟩ K) (ht : gT tm t = .agg l := by rfl) (hn : NzL l l' := by repeat (first | exact .nil | refine .nz rfl ?_ | refine .keep ?_)) : ACont E nt ⟨tm, bk⟩ K := by
  intro a w ⟨ρ, Zn, hs⟩
  refine h a w ⟨ρ, Zn, hs.upd (fun _ => False) rfl rfl rfl (Nat.le_refl _) (fun _ _ _ => rfl) (fun _ _ => rfl) (fun _ _ => rfl) (fun _ h => h.elim) (fun _ h => h) (fun _ h => .inl h) (fun _ h => h.elim) (fun _ _ h => h.elim) (fun _ _ _ h => h.elim) rfl rfl (fun i => ?_) (fun _ h => h.elim)⟩
  by_cases hi : i = t
  · right
    intro m
    subst hi
    show RepT _ _ _ _ (gT ((i, .agg l') :: tm) i) _
    rw [gT_cons, if_pos rfl]
    have h1 := hs.tmp i
    rw [ht] at h1
    obtain ⟨cs, h2, h3⟩ := rep_agg h1
    rw [h2]
    exact .inr (.inr (.inl (.inr ⟨l', cs, rfl, rfl, hn.ok h3⟩)))
  · left; exact ⟨by show gT ((t, .agg l') :: tm) i = _; rw [gT_cons, if_neg hi], rfl⟩
theorem ac_nzB {E : Env} {nt : Nat} {tm : List (Nat × AV)} {bk : List (Nat × Blk)} {K : Act → World → Prop} {t : TypeId} {l : List AV} (b : Nat) (l' : List AV) (h : ACont E nt ⟨tm, (b, .box t l') :: bk⟩ K) (hb : gB bk b = .box t l := by rfl) (hn : NzL l l' := by repeat (first | exact .nil | refine .nz rfl ?_ | refine .keep ?_)) : ACont E nt ⟨tm, bk⟩ K := by
  intro a w ⟨ρ, Zn, hs⟩
  have hk : ∀ i, gB ((b, .box t l') :: bk) i = if i = b then .box t l' else gB bk i := fun i => gB_cons i
  refine h a w ⟨ρ, Zn, hs.upd (fun i => i = b) rfl rfl rfl (Nat.le_refl _) (fun _ _ _ => rfl) (fun _ _ => rfl) (fun i hi => by rw [hk, if_neg hi]) (fun i hi _ => ⟨by rw [hk, if_pos hi]; exact fun h => (by cases h), rfl⟩) (fun _ h => h) (fun _ h => .inl h) (fun i hi m => ?_) (fun i k hi ho => ?_) (fun i j k hi hj _ _ => hi.trans hj.symm) rfl rfl (fun i => .inl ⟨rfl, rfl⟩) (fun i hi => by subst hi; rw [hk, if_pos rfl, hb]; exact ⟨rfl, rfl⟩)⟩
  · subst hi
    rw [hk, if_pos rfl]
    have h1 := hs.blk i
    rw [hb] at h1
    obtain ⟨g, cs, h2, h3, h4⟩ := h1
    exact ⟨g, cs, h2, h3, hn.ok (h4.imp fun _ _ h => RepC.move m h)⟩
  · subst hi
    have ho' : Own ρ (gB bk) i k := ⟨by rw [hb]; rfl, ho.2⟩
    exact ⟨.inr ⟨i, rfl, ho'⟩, (hs.out i k ho').2⟩
theorem ac_nilA {E : Env} {nt : Nat} {tm : List (Nat × AV)} {bk : List (Nat × Blk)} {K : Act → World → Prop} {l : List AV} (t j nb e sz : Nat) (l' : List AV) (h : ACont E nt ⟨(t, .agg l') :: tm, (nb, .row e sz []) :: bk⟩ K) (ht : gT tm t = .agg l := by rfl) (hj : l[j]? = some (.lit (.slice none 0 0)) := by rfl) (hc : l.set j (.row nb) = l' := by rfl) (hnb : gB bk nb = .fresh := by rfl) (hsz : Nat.blt 0 sz = true := by rfl) : ACont E nt ⟨tm, bk⟩ K := by
  intro a w ⟨ρ, Zn, hs⟩
  refine h a w ⟨fun i => if i = nb then .slice none 0 0 else ρ i, Zn, ?_⟩
  have hsz' : 0 < sz := by simpa using hsz
  refine hs.upd (fun b => b = nb) rfl rfl rfl (Nat.le_refl _) (fun _ _ _ => rfl) (fun b hb => if_neg hb) (fun b hb => by rw [gB_cons, if_neg hb]) (fun b hb hne => absurd (hb ▸ hnb) hne) (fun _ h => h) (fun _ h => .inl h) (fun b hb m => ?_) (fun b k hb ho => ?_) (fun b b' k hb hb' _ _ => hb.trans hb'.symm) rfl rfl (fun i => ?_) (fun b hb => by subst hb; exact ⟨by rw [show gB bk b = .fresh from hnb]; rfl, by rw [gB_cons, if_pos rfl]; rfl⟩)
  · subst hb
    rw [gB_cons, if_pos rfl, if_pos rfl]
    exact rowNil hsz'
  · subst hb
    have := ho.2
    simp [refB] at this
  · by_cases hi : i = t
    · right
      intro m
      subst hi
      have h1 := hs.tmp i
      rw [ht] at h1
      obtain ⟨cs, h2, h3⟩ := rep_agg h1
      obtain ⟨v, hv, hr⟩ := h3.get hj
      have hv' : v = .slice none 0 0 := by
        rcases hr with hr | ⟨_, _, _, hr, _⟩
        · exact hr.1
        · cases hr
      subst hv'
      show RepT _ _ _ _ (gT ((i, .agg l') :: tm) i) _
      rw [gT_cons, if_pos rfl, h2]
      have h5 := (h3.imp fun _ _ h => RepC.move m h).set j (a := .row nb) (b := .slice none 0 0) (.inl ⟨by rw [gB_cons, if_pos rfl]; simp, by simp, rfl⟩)
      rw [hc] at h5
      have e : cs.set j (.slice none 0 0) = cs := by
        apply List.ext_getElem?
        intro k
        rw [List.getElem?_set]
        split
        · rename_i e; subst e
          rw [hv]
          have := (List.getElem?_eq_some_iff.1 hv).1
          simp [this]
        · rfl
      rw [e] at h5
      exact .inr (.inr (.inl (.inr ⟨l', cs, rfl, rfl, h5⟩)))
    · exact .inl ⟨by show gT ((t, .agg l') :: tm) i = _; rw [gT_cons, if_neg hi], rfl⟩
theorem lsD {α : Type} {f : α → AV} {l : List α} {n : Int} {i : Nat} {X : AV} (h : ((l.map f).length : Int) = n) : (((l.map f).set i X).length : Int) = n := by rw [List.length_set]; exact h
section
variable {P : Program} {ops : Array Oper} {Q : Exit → Act → World → Prop} {E : Env} {nt : Nat} {s s0 : S} {tm : List (Nat × AV)} {bk : List (Nat × Blk)} {todo : List Oper} {o : Oper} {ns : List Nm} {G : Prop}
theorem kcS15 (d : Nat) {b0 b1 b2 b3 b4 b5 b6 b7 b8 b9 b10 b11 b12 b13 b14 : Nat} {y0 y1 y2 y3 y4 y5 y6 y7 y8 y9 y10 y11 y12 y13 y14 : Blk} (x : AV) (ups : List (Nat × Blk)) {lk gl tl : List Nat} {c : LA} (hg : Gd ops nt tm o gl) (hok : Owp P Q E nt o ⟨tm, bk⟩ c lk tl) (hc : c = ⟨some d, x, [(b0, y0), (b1, y1), (b2, y2), (b3, y3), (b4, y4), (b5, y5), (b6, y6), (b7, y7), (b8, y8), (b9, y9), (b10, y10), (b11, y11), (b12, y12), (b13, y13), (b14, y14)]⟩) (hu : ups = [(b0, y0), (b1, y1), (b2, y2), (b3, y3), (b4, y4), (b5, y5), (b6, y6), (b7, y7), (b8, y8), (b9, y9), (b10, y10), (b11, y11), (b12, y12), (b13, y13), (b14, y14)]) (h : Wk P ops Q E nt s0 todo ⟨(d, x) :: tm, (b0, y0) :: (b1, y1) :: (b2, y2) :: (b3, y3) :: (b4, y4) :: (b5, y5) :: (b6, y6) :: (b7, y7) :: (b8, y8) :: (b9, y9) :: (b10, y10) :: (b11, y11) :: (b12, y12) :: (b13, y13) :: (b14, y14) :: bk⟩ (⟨some d, [b0, b1, b2, b3, b4, b5, b6, b7, b8, b9, b10, b11, b12, b13, b14], gl ++ lk, tl⟩ :: ns) G) : Wk P ops Q E nt s0 (o :: todo) ⟨tm, bk⟩ ns G := by
  subst hu
  exact kcall hg hok hc h
theorem kcS16 (d : Nat) {b0 b1 b2 b3 b4 b5 b6 b7 b8 b9 b10 b11 b12 b13 b14 b15 : Nat} {y0 y1 y2 y3 y4 y5 y6 y7 y8 y9 y10 y11 y12 y13 y14 y15 : Blk} (x : AV) (ups : List (Nat × Blk)) {lk gl tl : List Nat} {c : LA} (hg : Gd ops nt tm o gl) (hok : Owp P Q E nt o ⟨tm, bk⟩ c lk tl) (hc : c = ⟨some d, x, [(b0, y0), (b1, y1), (b2, y2), (b3, y3), (b4, y4), (b5, y5), (b6, y6), (b7, y7), (b8, y8), (b9, y9), (b10, y10), (b11, y11), (b12, y12), (b13, y13), (b14, y14), (b15, y15)]⟩) (hu : ups = [(b0, y0), (b1, y1), (b2, y2), (b3, y3), (b4, y4), (b5, y5), (b6, y6), (b7, y7), (b8, y8), (b9, y9), (b10, y10), (b11, y11), (b12, y12), (b13, y13), (b14, y14), (b15, y15)]) (h : Wk P ops Q E nt s0 todo ⟨(d, x) :: tm, (b0, y0) :: (b1, y1) :: (b2, y2) :: (b3, y3) :: (b4, y4) :: (b5, y5) :: (b6, y6) :: (b7, y7) :: (b8, y8) :: (b9, y9) :: (b10, y10) :: (b11, y11) :: (b12, y12) :: (b13, y13) :: (b14, y14) :: (b15, y15) :: bk⟩ (⟨some d, [b0, b1, b2, b3, b4, b5, b6, b7, b8, b9, b10, b11, b12, b13, b14, b15], gl ++ lk, tl⟩ :: ns) G) : Wk P ops Q E nt s0 (o :: todo) ⟨tm, bk⟩ ns G := by
  subst hu
  exact kcall hg hok hc h
theorem kcS17 (d : Nat) {b0 b1 b2 b3 b4 b5 b6 b7 b8 b9 b10 b11 b12 b13 b14 b15 b16 : Nat} {y0 y1 y2 y3 y4 y5 y6 y7 y8 y9 y10 y11 y12 y13 y14 y15 y16 : Blk} (x : AV) (ups : List (Nat × Blk)) {lk gl tl : List Nat} {c : LA} (hg : Gd ops nt tm o gl) (hok : Owp P Q E nt o ⟨tm, bk⟩ c lk tl) (hc : c = ⟨some d, x, [(b0, y0), (b1, y1), (b2, y2), (b3, y3), (b4, y4), (b5, y5), (b6, y6), (b7, y7), (b8, y8), (b9, y9), (b10, y10), (b11, y11), (b12, y12), (b13, y13), (b14, y14), (b15, y15), (b16, y16)]⟩) (hu : ups = [(b0, y0), (b1, y1), (b2, y2), (b3, y3), (b4, y4), (b5, y5), (b6, y6), (b7, y7), (b8, y8), (b9, y9), (b10, y10), (b11, y11), (b12, y12), (b13, y13), (b14, y14), (b15, y15), (b16, y16)]) (h : Wk P ops Q E nt s0 todo ⟨(d, x) :: tm, (b0, y0) :: (b1, y1) :: (b2, y2) :: (b3, y3) :: (b4, y4) :: (b5, y5) :: (b6, y6) :: (b7, y7) :: (b8, y8) :: (b9, y9) :: (b10, y10) :: (b11, y11) :: (b12, y12) :: (b13, y13) :: (b14, y14) :: (b15, y15) :: (b16, y16) :: bk⟩ (⟨some d, [b0, b1, b2, b3, b4, b5, b6, b7, b8, b9, b10, b11, b12, b13, b14, b15, b16], gl ++ lk, tl⟩ :: ns) G) : Wk P ops Q E nt s0 (o :: todo) ⟨tm, bk⟩ ns G := by
  subst hu
  exact kcall hg hok hc h
theorem kcS18 (d : Nat) {b0 b1 b2 b3 b4 b5 b6 b7 b8 b9 b10 b11 b12 b13 b14 b15 b16 b17 : Nat} {y0 y1 y2 y3 y4 y5 y6 y7 y8 y9 y10 y11 y12 y13 y14 y15 y16 y17 : Blk} (x : AV) (ups : List (Nat × Blk)) {lk gl tl : List Nat} {c : LA} (hg : Gd ops nt tm o gl) (hok : Owp P Q E nt o ⟨tm, bk⟩ c lk tl) (hc : c = ⟨some d, x, [(b0, y0), (b1, y1), (b2, y2), (b3, y3), (b4, y4), (b5, y5), (b6, y6), (b7, y7), (b8, y8), (b9, y9), (b10, y10), (b11, y11), (b12, y12), (b13, y13), (b14, y14), (b15, y15), (b16, y16), (b17, y17)]⟩) (hu : ups = [(b0, y0), (b1, y1), (b2, y2), (b3, y3), (b4, y4), (b5, y5), (b6, y6), (b7, y7), (b8, y8), (b9, y9), (b10, y10), (b11, y11), (b12, y12), (b13, y13), (b14, y14), (b15, y15), (b16, y16), (b17, y17)]) (h : Wk P ops Q E nt s0 todo ⟨(d, x) :: tm, (b0, y0) :: (b1, y1) :: (b2, y2) :: (b3, y3) :: (b4, y4) :: (b5, y5) :: (b6, y6) :: (b7, y7) :: (b8, y8) :: (b9, y9) :: (b10, y10) :: (b11, y11) :: (b12, y12) :: (b13, y13) :: (b14, y14) :: (b15, y15) :: (b16, y16) :: (b17, y17) :: bk⟩ (⟨some d, [b0, b1, b2, b3, b4, b5, b6, b7, b8, b9, b10, b11, b12, b13, b14, b15, b16, b17], gl ++ lk, tl⟩ :: ns) G) : Wk P ops Q E nt s0 (o :: todo) ⟨tm, bk⟩ ns G := by
  subst hu
  exact kcall hg hok hc h
theorem kcN5 {b0 b1 b2 b3 b4 : Nat} {y0 y1 y2 y3 y4 : Blk} (x : AV) (ups : List (Nat × Blk)) {lk gl tl : List Nat} {c : LA} (hg : Gd ops nt tm o gl) (hok : Owp P Q E nt o ⟨tm, bk⟩ c lk tl) (hc : c = ⟨none, x, [(b0, y0), (b1, y1), (b2, y2), (b3, y3), (b4, y4)]⟩) (hu : ups = [(b0, y0), (b1, y1), (b2, y2), (b3, y3), (b4, y4)]) (h : Wk P ops Q E nt s0 todo ⟨tm, (b0, y0) :: (b1, y1) :: (b2, y2) :: (b3, y3) :: (b4, y4) :: bk⟩ (⟨none, [b0, b1, b2, b3, b4], gl ++ lk, tl⟩ :: ns) G) : Wk P ops Q E nt s0 (o :: todo) ⟨tm, bk⟩ ns G := by
  subst hu
  exact kcall hg hok hc h
theorem kcN6 {b0 b1 b2 b3 b4 b5 : Nat} {y0 y1 y2 y3 y4 y5 : Blk} (x : AV) (ups : List (Nat × Blk)) {lk gl tl : List Nat} {c : LA} (hg : Gd ops nt tm o gl) (hok : Owp P Q E nt o ⟨tm, bk⟩ c lk tl) (hc : c = ⟨none, x, [(b0, y0), (b1, y1), (b2, y2), (b3, y3), (b4, y4), (b5, y5)]⟩) (hu : ups = [(b0, y0), (b1, y1), (b2, y2), (b3, y3), (b4, y4), (b5, y5)]) (h : Wk P ops Q E nt s0 todo ⟨tm, (b0, y0) :: (b1, y1) :: (b2, y2) :: (b3, y3) :: (b4, y4) :: (b5, y5) :: bk⟩ (⟨none, [b0, b1, b2, b3, b4, b5], gl ++ lk, tl⟩ :: ns) G) : Wk P ops Q E nt s0 (o :: todo) ⟨tm, bk⟩ ns G := by
  subst hu
  exact kcall hg hok hc h
theorem kcN7 {b0 b1 b2 b3 b4 b5 b6 : Nat} {y0 y1 y2 y3 y4 y5 y6 : Blk} (x : AV) (ups : List (Nat × Blk)) {lk gl tl : List Nat} {c : LA} (hg : Gd ops nt tm o gl) (hok : Owp P Q E nt o ⟨tm, bk⟩ c lk tl) (hc : c = ⟨none, x, [(b0, y0), (b1, y1), (b2, y2), (b3, y3), (b4, y4), (b5, y5), (b6, y6)]⟩) (hu : ups = [(b0, y0), (b1, y1), (b2, y2), (b3, y3), (b4, y4), (b5, y5), (b6, y6)]) (h : Wk P ops Q E nt s0 todo ⟨tm, (b0, y0) :: (b1, y1) :: (b2, y2) :: (b3, y3) :: (b4, y4) :: (b5, y5) :: (b6, y6) :: bk⟩ (⟨none, [b0, b1, b2, b3, b4, b5, b6], gl ++ lk, tl⟩ :: ns) G) : Wk P ops Q E nt s0 (o :: todo) ⟨tm, bk⟩ ns G := by
  subst hu
  exact kcall hg hok hc h
theorem kcN8 {b0 b1 b2 b3 b4 b5 b6 b7 : Nat} {y0 y1 y2 y3 y4 y5 y6 y7 : Blk} (x : AV) (ups : List (Nat × Blk)) {lk gl tl : List Nat} {c : LA} (hg : Gd ops nt tm o gl) (hok : Owp P Q E nt o ⟨tm, bk⟩ c lk tl) (hc : c = ⟨none, x, [(b0, y0), (b1, y1), (b2, y2), (b3, y3), (b4, y4), (b5, y5), (b6, y6), (b7, y7)]⟩) (hu : ups = [(b0, y0), (b1, y1), (b2, y2), (b3, y3), (b4, y4), (b5, y5), (b6, y6), (b7, y7)]) (h : Wk P ops Q E nt s0 todo ⟨tm, (b0, y0) :: (b1, y1) :: (b2, y2) :: (b3, y3) :: (b4, y4) :: (b5, y5) :: (b6, y6) :: (b7, y7) :: bk⟩ (⟨none, [b0, b1, b2, b3, b4, b5, b6, b7], gl ++ lk, tl⟩ :: ns) G) : Wk P ops Q E nt s0 (o :: todo) ⟨tm, bk⟩ ns G := by
  subst hu
  exact kcall hg hok hc h
theorem kcN9 {b0 b1 b2 b3 b4 b5 b6 b7 b8 : Nat} {y0 y1 y2 y3 y4 y5 y6 y7 y8 : Blk} (x : AV) (ups : List (Nat × Blk)) {lk gl tl : List Nat} {c : LA} (hg : Gd ops nt tm o gl) (hok : Owp P Q E nt o ⟨tm, bk⟩ c lk tl) (hc : c = ⟨none, x, [(b0, y0), (b1, y1), (b2, y2), (b3, y3), (b4, y4), (b5, y5), (b6, y6), (b7, y7), (b8, y8)]⟩) (hu : ups = [(b0, y0), (b1, y1), (b2, y2), (b3, y3), (b4, y4), (b5, y5), (b6, y6), (b7, y7), (b8, y8)]) (h : Wk P ops Q E nt s0 todo ⟨tm, (b0, y0) :: (b1, y1) :: (b2, y2) :: (b3, y3) :: (b4, y4) :: (b5, y5) :: (b6, y6) :: (b7, y7) :: (b8, y8) :: bk⟩ (⟨none, [b0, b1, b2, b3, b4, b5, b6, b7, b8], gl ++ lk, tl⟩ :: ns) G) : Wk P ops Q E nt s0 (o :: todo) ⟨tm, bk⟩ ns G := by
  subst hu
  exact kcall hg hok hc h
theorem kcN10 {b0 b1 b2 b3 b4 b5 b6 b7 b8 b9 : Nat} {y0 y1 y2 y3 y4 y5 y6 y7 y8 y9 : Blk} (x : AV) (ups : List (Nat × Blk)) {lk gl tl : List Nat} {c : LA} (hg : Gd ops nt tm o gl) (hok : Owp P Q E nt o ⟨tm, bk⟩ c lk tl) (hc : c = ⟨none, x, [(b0, y0), (b1, y1), (b2, y2), (b3, y3), (b4, y4), (b5, y5), (b6, y6), (b7, y7), (b8, y8), (b9, y9)]⟩) (hu : ups = [(b0, y0), (b1, y1), (b2, y2), (b3, y3), (b4, y4), (b5, y5), (b6, y6), (b7, y7), (b8, y8), (b9, y9)]) (h : Wk P ops Q E nt s0 todo ⟨tm, (b0, y0) :: (b1, y1) :: (b2, y2) :: (b3, y3) :: (b4, y4) :: (b5, y5) :: (b6, y6) :: (b7, y7) :: (b8, y8) :: (b9, y9) :: bk⟩ (⟨none, [b0, b1, b2, b3, b4, b5, b6, b7, b8, b9], gl ++ lk, tl⟩ :: ns) G) : Wk P ops Q E nt s0 (o :: todo) ⟨tm, bk⟩ ns G := by
  subst hu
  exact kcall hg hok hc h
theorem kcN11 {b0 b1 b2 b3 b4 b5 b6 b7 b8 b9 b10 : Nat} {y0 y1 y2 y3 y4 y5 y6 y7 y8 y9 y10 : Blk} (x : AV) (ups : List (Nat × Blk)) {lk gl tl : List Nat} {c : LA} (hg : Gd ops nt tm o gl) (hok : Owp P Q E nt o ⟨tm, bk⟩ c lk tl) (hc : c = ⟨none, x, [(b0, y0), (b1, y1), (b2, y2), (b3, y3), (b4, y4), (b5, y5), (b6, y6), (b7, y7), (b8, y8), (b9, y9), (b10, y10)]⟩) (hu : ups = [(b0, y0), (b1, y1), (b2, y2), (b3, y3), (b4, y4), (b5, y5), (b6, y6), (b7, y7), (b8, y8), (b9, y9), (b10, y10)]) (h : Wk P ops Q E nt s0 todo ⟨tm, (b0, y0) :: (b1, y1) :: (b2, y2) :: (b3, y3) :: (b4, y4) :: (b5, y5) :: (b6, y6) :: (b7, y7) :: (b8, y8) :: (b9, y9) :: (b10, y10) :: bk⟩ (⟨none, [b0, b1, b2, b3, b4, b5, b6, b7, b8, b9, b10], gl ++ lk, tl⟩ :: ns) G) : Wk P ops Q E nt s0 (o :: todo) ⟨tm, bk⟩ ns G := by
  subst hu
  exact kcall hg hok hc h
end
end Go.Proofs.YtahmbcgolnplgaaDoorA
