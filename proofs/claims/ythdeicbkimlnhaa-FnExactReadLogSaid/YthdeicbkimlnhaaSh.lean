/- Facts carried through a world that has grown, by one word each: what a row, a block, a reading or the old memory is behind allocations and drawn orders. No condition but those named. -/
import Derived.Test.YthdeicbkimlnhaaVMore
set_option linter.unusedVariables false
namespace Go.Proofs.YthdeicbkimlnhaaH
open Go.RowKit Go.Proofs.YthdeicbkimlnhaaW.PrintWords Go.Proofs.YthdeicbkimlnhaaW.PrintLast Go.Proofs.YthdeicbkimlnhaaW.PrintMore
theorem rr {α : Type} {d : Kd α} {e base base' : Nat} {w W : World} {ok ok' : Nat → Prop} {v v' : Value} {xs xs' : List α} (h : Kd.R d e w base ok v xs)
    (g : Kd.R d e w base ok v xs → Kd.R d e W base' ok' v' xs' := by (intro h_; (with_reducible repeat (first | apply Kd.R_alloc | apply Kd.R_drewN | apply Kd.R_drew)); exact h_)) : Kd.R d e W base' ok' v' xs' := g h
theorem rk {w W : World} {g : Nat} {o o' : Obj} (h : w.heap[g]? = some o)
    (f : w.heap[g]? = some o → W.heap[g]? = some o' := by (intro h_; (with_reducible repeat (first | refine blk_drewN ?_ _ | refine blk_drew ?_ | refine blk_alloc ?_ _)); exact h_)) : W.heap[g]? = some o' := f h
theorem rb {B B' : Nat} {w W W' : World} (h : Below B w W)
    (f : Below B w W → Below B' w W' := by (intro h_; repeat (first | (with_reducible first | exact h_ | apply below_alloc | apply pw_below_drewN | apply below_drew1) | exact h_))) : Below B' w W' := f h
theorem rc {α : Type} {d : Kd α} {w W : World} {A A' : Option Addr} {n n' : Nat} {xs xs' : List α} (h : Kd.C d w A n xs)
    (f : Kd.C d w A n xs → Kd.C d W A' n' xs' := by (intro h_; repeat (first | exact h_ | (with_reducible refine Kd.C_alloc ?_ _) | (with_reducible refine Kd.C_drewN ?_ _) | (with_reducible refine Kd.C_drew ?_)))) : Kd.C d W A' n' xs' := f h
theorem rb1 {B B' : Nat} {w w' W W' : World} {P0 : Prop} (p0 : P0) (h : Below B w W)
    (f : P0 → Below B w W → Below B' w' W' := by (intro p0_ h_; repeat (first | (with_reducible first | exact h_ | apply below_alloc | apply pw_below_drewN | apply below_drew1 | refine below_set ?_ p0_) | exact h_))) : Below B' w' W' := f p0 h
theorem rb2 {B B' : Nat} {w w' W W' : World} {P0 : Prop} {P1 : Prop} (p0 : P0) (p1 : P1) (h : Below B w W)
    (f : P0 → P1 → Below B w W → Below B' w' W' := by (intro p0_ p1_ h_; repeat (first | (with_reducible first | exact h_ | apply below_alloc | apply pw_below_drewN | apply below_drew1 | refine below_set ?_ p0_ | refine below_set ?_ p1_) | exact h_))) : Below B' w' W' := f p0 p1 h
theorem rb3 {B B' : Nat} {w w' W W' : World} {P0 : Prop} {P1 : Prop} {P2 : Prop} (p0 : P0) (p1 : P1) (p2 : P2) (h : Below B w W)
    (f : P0 → P1 → P2 → Below B w W → Below B' w' W' := by (intro p0_ p1_ p2_ h_; repeat (first | (with_reducible first | exact h_ | apply below_alloc | apply pw_below_drewN | apply below_drew1 | refine below_set ?_ p0_ | refine below_set ?_ p1_ | refine below_set ?_ p2_) | exact h_))) : Below B' w' W' := f p0 p1 p2 h
theorem rb4 {B B' : Nat} {w w' W W' : World} {P0 : Prop} {P1 : Prop} {P2 : Prop} {P3 : Prop} (p0 : P0) (p1 : P1) (p2 : P2) (p3 : P3) (h : Below B w W)
    (f : P0 → P1 → P2 → P3 → Below B w W → Below B' w' W' := by (intro p0_ p1_ p2_ p3_ h_; repeat (first | (with_reducible first | exact h_ | apply below_alloc | apply pw_below_drewN | apply below_drew1 | refine below_set ?_ p0_ | refine below_set ?_ p1_ | refine below_set ?_ p2_ | refine below_set ?_ p3_) | exact h_))) : Below B' w' W' := f p0 p1 p2 p3 h
theorem rb5 {B B' : Nat} {w w' W W' : World} {P0 : Prop} {P1 : Prop} {P2 : Prop} {P3 : Prop} {P4 : Prop} (p0 : P0) (p1 : P1) (p2 : P2) (p3 : P3) (p4 : P4) (h : Below B w W)
    (f : P0 → P1 → P2 → P3 → P4 → Below B w W → Below B' w' W' := by (intro p0_ p1_ p2_ p3_ p4_ h_; repeat (first | (with_reducible first | exact h_ | apply below_alloc | apply pw_below_drewN | apply below_drew1 | refine below_set ?_ p0_ | refine below_set ?_ p1_ | refine below_set ?_ p2_ | refine below_set ?_ p3_ | refine below_set ?_ p4_) | exact h_))) : Below B' w' W' := f p0 p1 p2 p3 p4 h
theorem rb6 {B B' : Nat} {w w' W W' : World} {P0 : Prop} {P1 : Prop} {P2 : Prop} {P3 : Prop} {P4 : Prop} {P5 : Prop} (p0 : P0) (p1 : P1) (p2 : P2) (p3 : P3) (p4 : P4) (p5 : P5) (h : Below B w W)
    (f : P0 → P1 → P2 → P3 → P4 → P5 → Below B w W → Below B' w' W' := by (intro p0_ p1_ p2_ p3_ p4_ p5_ h_; repeat (first | (with_reducible first | exact h_ | apply below_alloc | apply pw_below_drewN | apply below_drew1 | refine below_set ?_ p0_ | refine below_set ?_ p1_ | refine below_set ?_ p2_ | refine below_set ?_ p3_ | refine below_set ?_ p4_ | refine below_set ?_ p5_) | exact h_))) : Below B' w' W' := f p0 p1 p2 p3 p4 p5 h
theorem ev_ {a : Act} {t : Nat} {v : Value} (h : a.tmps[t]? = some v) : a.eval (.tmp t) = v := by simp [Act.eval, Array.getD_eq_getD_getElem?, h]
section
variable {P : Program} {ops : Array Oper} {Q : Exit → Act → World → Prop}
/-- A call through a value that is known: the callee's operand evaluates to a function that captures nothing. -/
theorem goesF_ (x : Operand) {rest : List Oper} {oi : Oper} {a : Act} {w : World} (N : Option Tmp) (hd : oi.dst = N) (hg : oi.guard = none) {f : FuncId} {fn : Func} {as : Array Operand} {ts : Array TypeId} (hf : P.funcs[f]? = some fn) (hname : (fn.name == "runtime.NumGoroutine") = false) (hb : fn.body.isSome = true) (args : Array Value)
    (hop : oi.op = .call { callee := .value x, args := as, argTypes := ts }) (hx : a.eval x = .func (.func f) #[] #[]) (hargs : as.map a.eval = args)
    (h : Calls P f args w fun e w' => ∃ v, e = .returned v ∧ wpList P ops Q rest (a.put N v) w') : wpList P ops Q (oi :: rest) a w := by
  refine wpList_plain hg fun K hK => ?_
  have he := enters_ hf hname hb args w
  have hrun : (execOp a.eval oi).run P w = .ok (.enter f args) w := by
    unfold execOp
    simp [hop, hx, resolve, Deferred.ofValue, invoke, hargs, he]
  unfold Oper.wp
  rw [hrun, Oper.upon_enter]
  refine h.mono fun e w'' hh => ?_
  obtain ⟨v, rfl, hk⟩ := hh
  subst hd
  exact hK _ _ hk
end
end Go.Proofs.YthdeicbkimlnhaaH
