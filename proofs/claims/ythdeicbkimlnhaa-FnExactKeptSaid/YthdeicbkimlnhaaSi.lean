/- A region's steps by short words, and arrays as rows: see Sh for the rest. No claim lies here. -/
import Derived.Test.YthdeicbkimlnhaaSh
import Derived.Test.YthdeicbkimlnhaaVTab
set_option linter.unusedVariables false
namespace Go.Proofs.YthdeicbkimlnhaaH
open Go.RowKit Go.Proofs.YthdeicbkimlnhaaW.PrintWords Go.Proofs.YthdeicbkimlnhaaW.PrintLast Go.Proofs.YthdeicbkimlnhaaW.PrintMore
/-! A region's steps, by one word each (shrink3.py writes them): what has come up is a number's bits. -/
def lbl : Nat → Nat → List Bool
  | 0, _ => []
  | n + 1, m => (m % 2 == 1) :: lbl n (m / 2)
def lb (n m : Nat) : Array Bool := (lbl n m).toArray
section
variable {P : Program} {md : Region.Mode} {ops : Array Oper} {Q : Exit → Act → World → Prop} {S : World → Prop} {ds : List Nat} {T : Bool × List (List Nat × List Nat)} {B : List Nat} {n m0 : Nat} {oi : Oper} {v : Value} {fuel : Nat} {a a' : Act} {w : World}
theorem pv (i : Nat) (N : Option Tmp) (m : Nat) (hi : ops[i]? = some oi) (hN : oi.dst = N) (hT : Aside0 (rtab md ops = T)) (h : wpAnyLast P md ops Q S ds fuel (lb n m) a' w) (hc : anyT T (lb n m0).toList (lb n m).toList i = true := by kernel_rfl)
    (hw : Region.wanted oi (yielded ops a.tmps) = true := by rfl) (hy : ∀ w, (execOp a.eval oi).run P w = .ok (.value v) w := by (intro w'; go_simp; with_reducible rfl))
    (ha : a.put N v = a' := by (simp only [Act.put, List.setIfInBounds_toArray, List.set_cons_zero, List.set_cons_succ, i64_w, i32_w]; rfl)) (hQ : ∀ c a w, Q (.panic c) (a.put oi.dst v) w → Q (.panic c) a w := by exact fun _ _ _ h => h) : wpAnyLast P md ops Q S ds (fuel + 1) (lb n m0) a w :=
  pure_ (lb n m) hi hN (any_of hT.out hc) hQ (.inl ⟨hw, hy⟩) ha h
theorem pu (i : Nat) (N : Option Tmp) (m : Nat) (hi : ops[i]? = some oi) (hN : oi.dst = N) (hT : Aside0 (rtab md ops = T)) (h : wpAnyLast P md ops Q S ds fuel (lb n m) a' w) (hc : anyT T (lb n m0).toList (lb n m).toList i = true := by kernel_rfl)
    (hw : Region.wanted oi (yielded ops a.tmps) = false := by rfl)
    (ha : a.put N undef = a' := by (simp only [Act.put, List.setIfInBounds_toArray, List.set_cons_zero, List.set_cons_succ, i64_w, i32_w]; rfl)) (hQ : ∀ c a w, Q (.panic c) (a.put oi.dst undef) w → Q (.panic c) a w := by exact fun _ _ _ h => h) : wpAnyLast P md ops Q S ds (fuel + 1) (lb n m0) a w :=
  pure_ (lb n m) hi hN (any_of hT.out hc) hQ (.inr ⟨hw, rfl⟩) ha h
theorem tv (i : Nat) (N : Option Tmp) (m : Nat) (hi : ops[i]? = some oi) (hN : oi.dst = N) (hT : Aside0 (rtab md ops = T)) (hB : Aside0 (waitsOk T.2 B = true)) (hS : S w) (h : wpAnyLast P md ops Q S ds fuel (lb n m) a' w) (hc : takeW T B ds (lb n m0).toList (lb n m).toList i = true := by kernel_rfl)
    (hw : Region.wanted oi (yielded ops a.tmps) = true := by rfl) (hy : ∀ w, S w → (execOp a.eval oi).run P w = .ok (.value v) w := by (intro w' s_; (repeat (obtain ⟨t_, s_⟩ := s_)); go_simp; with_reducible rfl))
    (ha : a.put N v = a' := by (simp only [Act.put, List.setIfInBounds_toArray, List.set_cons_zero, List.set_cons_succ, i64_w, i32_w]; rfl)) (hQ : ∀ c a w, Q (.panic c) (a.put oi.dst v) w → Q (.panic c) a w := by exact fun _ _ _ h => h) : wpAnyLast P md ops Q S ds (fuel + 1) (lb n m0) a w :=
  take_ (lb n m) hi hN (take_ofW hT.out hB.out hc) hQ (.inl ⟨hw, hy⟩) hS ha h
theorem ov (i : Nat) (N : Option Tmp) (m : Nat) (hi : ops[i]? = some oi) (hN : oi.dst = N) (hT : Aside0 (rtab md ops = T)) (h : ∀ K : Act → World → Prop, Shut (∀ a' w', S w' → (S w' → wpAnyLast P md ops Q S ds fuel (lb n m) a' w') → K a' w') → if Region.wanted oi (yielded ops a.tmps) = true then Oper.wp P oi a w K Q else K (a.put N undef) w)
    (hc : (readyT T.2 (lb n m0).toList == [i] && (lb n m0).toList.set i true == (lb n m).toList) = true := by kernel_rfl) (hd : i ∉ ds := by decide) : wpAnyLast P md ops Q S ds (fuel + 1) (lb n m0) a w :=
  one_ (lb n m) hi hN (one_of hT.out hc) hd h
theorem gv {N : Option Tmp} {K : Act → World → Prop} {f : FuncId} {fn : Func} {as : Array Operand} {ts : Array TypeId} (hf : P.funcs[f]? = some fn) (args : Array Value) (hb : fn.body.isSome = true) (hN : oi.dst = N) (hop : oi.op = .call { callee := .value (.func f), args := as, argTypes := ts }) (h : Calls P f args w fun e w' => ∃ v, e = .returned v ∧ K (a.put N v) w') (hname : (fn.name == "runtime.NumGoroutine") = false := by kernel_rfl)
    (hw : Region.wanted oi (yielded ops a.tmps) = true := by rfl) (hargs : as.map a.eval = args := by (try simp only [List.map_toArray, List.map_cons, List.map_nil]); first | done | rfl | (simp only [List.length_drop, List.length_take]; rfl)) : if Region.wanted oi (yielded ops a.tmps) = true then Oper.wp P oi a w K Q else K (a.put N undef) w :=
  goes_ hf hname hb args hw hN hop hargs h
theorem nv {l : Array Bool} {v : Value} (t : Tmp) (h : wpAnyLast P md ops Q S ds fuel l a' w) (ha : Act.put a (some t) v = a' := by (simp only [Act.put, List.setIfInBounds_toArray, List.set_cons_zero, List.set_cons_succ, i64_w, i32_w]; rfl)) : wpAnyLast P md ops Q S ds fuel l (Act.put a (some t) v) w := norm_ ha h
end
theorem ce {w W : World} {g t : Nat} {cs : Array Value} {v : Value} (h : Aside0 (w.heap[g]? = some (.cells cs t (0, 0)))) (i : Nat) (ew : W.cell? ⟨g, i, none⟩ = w.cell? ⟨g, i, none⟩ := by rfl) (e : cs[i]? = some v := by rfl) : W.cell? ⟨g, i, none⟩ = some v := ew.trans ((blk_cell h.out i).trans e)
theorem cb {w0 w W : World} {p : Addr} {v : Value} (h : Aside0 (Below w0.heap.size w0 w)) (hc : w0.cell? p = some v) (ew : W.cell? p = w.cell? p := by rfl) : W.cell? p = some v := ew.trans ((h.out.cell (World.block_lt_of_cell? w0 _ hc)).trans hc)
theorem od {p : Prop} [Decidable p] (h : decide p = true := by first | (with_reducible assumption) | assumption) : p := of_decide_eq_true h
theorem cb0 {w0 W : World} {p : Addr} {v : Value} (h : Aside0 (Below w0.heap.size w0 W)) (hc : w0.cell? p = some v) : W.cell? p = some v := (h.out.cell (World.block_lt_of_cell? w0 _ hc)).trans hc
/-! An array of its own as a row: its pointer is the row's, its length is known. -/
def ptrOf : Value → Value
  | .slice A _ _ => .pointer A
  | v => v
theorem ptrOf_slice (A : Option Addr) (n c : Nat) : ptrOf (.slice A n c) = .pointer A := rfl
section
variable {P : Program} {ops : Array Oper} {rest : List Oper} {o : Oper} {a : Act} {Q : Exit → Act → World → Prop}
theorem R_arr {α : Type} (d : Kd α) {w0 W : World} (base e : Nat) (hgd : o.guard = none) {N : Tmp} (_hd : o.dst = some N) {xs : List α} {inner : List Value} {ok okp : Nat → Prop}
    (hrun : (execOp a.eval o).run P W = .ok (.value (.pointer (some ⟨W.heap.size, 0, none⟩))) (W.alloc (.cells inner.toArray e)))
    (hrep : Reps (d.M W base okp) d.sz xs inner) (hok : ∀ k, okp k → ok k) (hfresh : ok W.heap.size) (HB : Below base w0 W) (hbase : base ≤ W.heap.size) (hm : xs.length ≤ 9223372036854775807)
    (h : ∀ v1 w1, d.R e w1 base ok v1 xs → Below base w0 w1 → W.grownBy w1 none → (∃ b, v1.ownBlock = some b ∧ W.heap.size ≤ b) → Aside0 (∃ A c, v1 = .slice A xs.length c) → wpList P ops Q rest (a.put o.dst (ptrOf v1)) w1) : wpList P ops Q (o :: rest) a W := by
  refine Kd.event_run hgd hrun (h (.slice (some ⟨W.heap.size, 0, none⟩) xs.length xs.length) _ ⟨fun k hk => ?_, inner, ?_, ?_⟩ (HB.alloc hbase _) (World.grownBy_alloc W _ none) ⟨W.heap.size, by simp [Value.ownBlock], Nat.le_refl _⟩ ⟨_, _, rfl⟩)
  · have : W.heap.size = k := by simpa [Value.ownBlock] using hk
    subst this
    exact hfresh
  · have h2 := World.ownsRow_lit (base := base) (e := e) (size := d.sz) W inner.toArray xs.length hbase (by simpa [maxLen] using hm) (by simpa using hrep.1)
    simpa using h2
  · refine hrep.imp_ (fun p c hp => d.M_mono (fun k hk => ⟨hok k hk.1, fun he => ?_⟩) (Kd.M_below (d.M_bound hp) (below_alloc (Below.refl _ _) _)))
    have h3 : k = W.heap.size := by simpa [Value.ownBlock] using he
    have := hk.2.2.1
    omega
end
theorem arr_len {v : Value} {B : Option Addr} {n m c : Nat} (h : Aside0 (∃ A c, v = .slice A n c)) (e : v = .slice B m c) : m = n := by
  obtain ⟨A, c, h⟩ := h.out
  rw [h] at e
  injection e with _ e1 _
  exact e1.symm
section
variable {P : Program} {ops : Array Oper} {rest : List Oper} {o : Oper} {a : Act} {Q : Exit → Act → World → Prop}
theorem R_arrI {w0 W : World} (base e n : Nat) (hgd : o.guard = none) {N : Tmp} (hd : o.dst = some N) {cs : Array Value} (hcs : cs.toList = (madeCells (Value.int .i64 0).cells (n * 1)).toList) (hn : n ≤ 9223372036854775807)
    (hrun : (execOp a.eval o).run P W = .ok (.value (.pointer (some ⟨W.heap.size, 0, none⟩))) (W.alloc (.cells cs e (0, 0)))) (HB : Below base w0 W) (hbase : base ≤ W.heap.size)
    (h : ∀ v1 w1, (Kd.int .i64).R e w1 base (fun _ => True) v1 (List.replicate n 0) → Below base w0 w1 → W.grownBy w1 none → (∃ b, v1.ownBlock = some b ∧ W.heap.size ≤ b) → Aside0 (∃ A c, v1 = .slice A n c) → wpList P ops Q rest (a.put o.dst (ptrOf v1)) w1) : wpList P ops Q (o :: rest) a W := by
  refine R_arr (Kd.int .i64) base e hgd hd (xs := List.replicate n 0) (inner := cs.toList) (ok := fun _ => True) (okp := fun _ => True) hrun ?_ (fun _ hk => hk) trivial HB hbase (by simpa using hn) (fun v1 w1 h1 h2 h3 h4 h5 => h v1 w1 h1 h2 h3 h4 (by simpa using h5))
  rw [hcs]
  exact Kd.reps_made (R := (Kd.int .i64).M W base fun _ => True) (z := .int .i64 0) (z0 := (0 : Int)) (size := 1) rfl (by decide) rfl n
end
theorem rn {α : Type} {d : Kd α} {e base : Nat} {w W : World} {ok ok' : Nat → Prop} {v : Value} {xs : List α} (h : Aside0 (Kd.R d e w base ok v xs)) (f : Kd.R d e w base ok v xs → Kd.R d e W base ok v xs := by (intro h_; (with_reducible repeat (first | apply Kd.R_alloc | apply Kd.R_drewN | apply Kd.R_drew)); exact h_)) (m : ∀ k, ok k → ok' k := by (intro k_ h_; (try simp only [and_assoc] at h_); (repeat (obtain ⟨_, h_⟩ := h_)); (repeat' apply And.intro) <;> first | assumption | trivial)) : Kd.R d e W base ok' v xs := Kd.R_mono (f h.out) m
theorem se {A A' : Option Addr} {n n' c c' : Nat} (h : Value.slice A n c = Value.slice A' n' c') : A' = A ∧ c' = c := by
  injection h with h1 _ h3
  exact ⟨h1.symm, h3.symm⟩
end Go.Proofs.YthdeicbkimlnhaaH
